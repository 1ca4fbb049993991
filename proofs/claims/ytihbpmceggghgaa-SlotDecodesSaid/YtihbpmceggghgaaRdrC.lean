/- The reader of the document's answer: its entry. -/
import Derived.Test.YtihbpmceggghgaaRdrB
import Derived.Test.YtihbpmceggghgaaCmp
import Derived.Laws.EntriesVeiled
import Derived.Deep.DeepCutAuto
import Derived.BigRegion
set_option linter.unusedVariables false
set_option linter.unusedSimpArgs false
namespace Go.Proofs.Ytihbpmceggghgaa
open Go.RowKit

theorem txR_end (l : List UInt8) (may : Nat → Bool) : txR l may (.ok 224) = ([], .error 224) := txR_bad rfl
theorem txR_byte {l : List UInt8} (hl : l.length = 224) (may : Nat → Bool) {p v : Nat} (hp : p < 224) (hv : (l.getD p 0).toNat = v) :
    txR l may (.ok p) = if may v = true ∧ p + 1 + v ≤ 224 then ((l.drop (p + 1)).take v, .ok (p + 1 + v)) else ([], .error p) := by
  have hk := tk1 (b := l) hl (may := fun v => may v && decide (v + p + 1 ≤ 224)) hp
  rw [hv] at hk
  by_cases h : may v = true ∧ p + 1 + v ≤ 224
  · rw [if_pos h]
    rw [if_pos (by rw [h.1, decide_eq_true (by omega)]; rfl)] at hk
    refine txR_ok ?_
    unfold tx
    rw [hk]
  · rw [if_neg h]
    rw [if_neg (fun hc => h (by simp only [Bool.and_eq_true, decide_eq_true_eq] at hc; exact ⟨hc.1, by omega⟩))] at hk
    refine txR_bad ?_
    unfold tx
    rw [hk]
theorem tkR_end (l : List UInt8) (may : Nat → Bool) : tkR l 1 may (.ok 224) = (0, .error 224) := tkR_bad rfl
theorem tkR_byte {l : List UInt8} (hl : l.length = 224) (may : Nat → Bool) {p v : Nat} (hp : p < 224) (hv : (l.getD p 0).toNat = v) : tkR l 1 may (.ok p) = if may v then (v, .ok (p + 1)) else (0, .error p) := by
  have hk := tk1 (b := l) hl (may := may) hp
  rw [hv] at hk
  by_cases h : may v = true
  · rw [if_pos h]; rw [if_pos h] at hk; exact tkR_ok hk
  · rw [if_neg h]; rw [if_neg h] at hk; exact tkR_bad hk
theorem num_two {l : List UInt8} {p : Nat} (hl : l.length = 224) (hp : p + 2 ≤ 224) : num ((l.drop p).take 2) = 256 * (l.getD p 0).toNat + (l.getD (p + 1) 0).toNat := by
  rw [show (2 : Nat) = 1 + 1 from rfl, take_split, drop_take1 (by omega), drop_take1 (by omega), List.singleton_append, num_cons, num_one]
  simp; omega
theorem tkR_two {l : List UInt8} (hl : l.length = 224) (may : Nat → Bool) {p v : Nat} (hp : p + 2 ≤ 224) (hv : 256 * (l.getD p 0).toNat + (l.getD (p + 1) 0).toNat = v) : tkR l 2 may (.ok p) = if may v then (v, .ok (p + 2)) else (0, .error p) := by
  have h2 := num_two hl hp
  rw [hv] at h2
  by_cases h : may v = true
  · rw [if_pos h]; exact tkR_ok (by unfold tk; rw [if_neg (by omega), h2, if_pos h])
  · rw [if_neg h]; exact tkR_bad (by unfold tk; rw [if_neg (by omega), h2, if_neg h])
theorem refkmay_neg (k i : Nat) (w : World) (hk : k < 256) (hi : i ≤ 9223372036854775807) :
    Calls Try.prog 58 #[.int .u8 (k : Int), .int .i64 (i : Int), .int .i64 (-1)] w fun e w' => (∃ b, e = .returned (.bool b)) ∧ w = w' := by
  by_cases h : k = 2 ∧ i = 0
  · obtain ⟨rfl, rfl⟩ := h
    go_enter Try.func58, Try.ntmps58
    go_wp2
    go_ret
    exact ⟨⟨_, rfl⟩, rfl⟩
  · by_cases h2 : k = 2
    · have hi0 : ((i : Int) == 0) = false := by rw [beq_eq_false_iff_ne]; intro e; exact h ⟨h2, by omega⟩
      subst h2
      clear h
      go_enter Try.func58, Try.ntmps58
      go_wp2
      go_ret
      exact ⟨⟨_, rfl⟩, rfl⟩
    · have hk0 : ((k : Int) == 2) = false := by rw [beq_eq_false_iff_ne]; omega
      clear h h2
      go_enter Try.func58, Try.ntmps58
      go_wp2
      go_ret
      exact ⟨⟨_, rfl⟩, rfl⟩
/-- A row of bytes stays, where the reader is written. -/
theorem rd_gz {w w' : World} {Z : Nat} {A : Option Addr} {c : Nat} {l : List UInt8} {s : RdSt} {p : Nat} {B : Option Addr} {n d : Nat} {t : List UInt8} (h : Rd w B n d t) (hz : RDS w Z A c l s p) (hg : w.grownBy w' (some Z)) : Rd w' B n d t :=
  ⟨h.len, h.cap, h.max, fun hn => by
    obtain ⟨b, o, e, hc⟩ := h.at_ hn
    refine ⟨b, o, e, fun j hj => ?_⟩
    have h1 := hc j hj
    have hb := World.block_lt_of_cell? w _ h1
    refine (World.cell?_of_block (w := w) (w' := w') (a := ⟨b, o + j, none⟩) (hg.block b hb fun e2 => ?_)).trans h1
    injection e2 with e2
    subst e2
    rw [hz.bz.cell (o + j)] at h1
    match o + j, h1 with
    | 0, h1 => simp at h1
    | 1, h1 => simp at h1
    | 2, h1 => simp at h1
    | q + 3, h1 => simp at h1⟩
theorem Own.gz {w w' : World} {H n c Z : Nat} {A : Option Addr} {l : List UInt8} (h : Own w H A n c l) (hg : w.grownBy w' (some Z)) (hZ : Z < H) : Own w' H A n c l :=
  h.kept hg fun a ha e => by have := h.ge a ha; simp at e; omega
/-- What the reader's entry leaves. -/
def REnt (w0 : World) (H Z : Nat) (A : Option Addr) (c : Nat) (l : List UInt8) (x : Ent) (s : RdSt) (e : Ending) (w' : World) : Prop :=
  ∃ B1 m1 d1 B2 m2 d2 L rc ch, e = .returned (EnV B1 m1 d1 B2 m2 d2 L rc ch) ∧ (∃ p', RDS w' Z A c l s p') ∧
    (∀ q, s = .ok q → Own w' H B1 m1 d1 x.key ∧ Own w' H B2 m2 d2 x.val ∧ L = x.len ∧ rc = x.chain ∧ ch = x.child) ∧ w0.grownBy w' (some Z)
theorem REnt.mk {w wx wa : World} {H Z : Nat} {A : Option Addr} {c : Nat} {l : List UInt8} {x : Ent} {s : RdSt} {p' : Nat} {B1 : Option Addr} {m1 d1 : Nat} {B2 : Option Addr} {m2 d2 : Nat} {L : Int} {rc ch : Rf}
    (hd : RDS wx Z A c l s p') (hg : w.grownBy wx (some Z)) (hga : wx.grownBy wa (some H)) (hZ : Z < H) (hH : w.heap.size = H)
    (hs : ∀ q, s = .ok q → Own wx (H + 2) B1 m1 d1 x.key ∧ Own wx (H + 2) B2 m2 d2 x.val ∧ L = x.len ∧ rc = x.chain ∧ ch = x.child) : REnt w H Z A c l x s (.returned (EnV B1 m1 d1 B2 m2 d2 L rc ch)) wa :=
  ⟨B1, m1, d1, B2, m2, d2, L, rc, ch, rfl, ⟨p', hd.kept hga hZ⟩, fun q hq => by
    obtain ⟨h1, h2, h3⟩ := hs q hq
    exact ⟨(h1.gz hga (by omega)).mono (by omega), (h2.gz hga (by omega)).mono (by omega), h3⟩, gz_new hg hga (by omega)⟩
theorem rset3 {w : World} {Z Y : Nat} {A : Option Addr} {c : Nat} {l : List UInt8} {s : RdSt} {p : Nat} (h : RDS w Z A c l s p) (hY : Z < Y) (i j k : Nat) (a b d : Value) : RDS (((w.setCell ⟨Y, i, none⟩ a).setCell ⟨Y, j, none⟩ b).setCell ⟨Y, k, none⟩ d) Z A c l s p :=
  ((h.far (p := ⟨Y, i, none⟩) hY _).far (p := ⟨Y, j, none⟩) hY _).far (p := ⟨Y, k, none⟩) hY _
theorem gset3 {w w' : World} {Z Y : Nat} (h : w.grownBy w' (some Z)) (hY : w.heap.size ≤ Y) (i j k : Nat) (a b d : Value) : w.grownBy (((w'.setCell ⟨Y, i, none⟩ a).setCell ⟨Y, j, none⟩ b).setCell ⟨Y, k, none⟩ d) (some Z) :=
  gz_set (gz_set (gz_set h (p := ⟨Y, i, none⟩) (.inr hY) _) (p := ⟨Y, j, none⟩) (.inr hY) _) (p := ⟨Y, k, none⟩) (.inr hY) _
theorem own3 {w : World} {B n c Y : Nat} {A : Option Addr} {l : List UInt8} (h : Own w B A n c l) (hY : Y < B) (i j k : Nat) (a b d : Value) : Own (((w.setCell ⟨Y, i, none⟩ a).setCell ⟨Y, j, none⟩ b).setCell ⟨Y, k, none⟩ d) B A n c l :=
  ((h.setLow (p := ⟨Y, i, none⟩) hY _).setLow (p := ⟨Y, j, none⟩) hY _).setLow (p := ⟨Y, k, none⟩) hY _
theorem far3 {w : World} {X Y : Nat} {T : TypeId} {cs : Array Value} (h : Blk w X T cs) (hY : X ≠ Y) (i j k : Nat) (a b d : Value) : Blk (((w.setCell ⟨Y, i, none⟩ a).setCell ⟨Y, j, none⟩ b).setCell ⟨Y, k, none⟩ d) X T cs :=
  ((h.far (p := ⟨Y, i, none⟩) hY _).far (p := ⟨Y, j, none⟩) hY _).far (p := ⟨Y, k, none⟩) hY _
set_option maxRecDepth 100000 in
set_option maxHeartbeats 6400000 in
theorem rentry_any (Z : Nat) (A : Option Addr) (c : Nat) (l : List UInt8) (k i p : Nat) (Aa : Option Addr) (na ca : Nat) (ahead : List UInt8) (w : World) (h : RDS w Z A c l (.ok p) p) (ha : Rd w Aa na ca ahead) (hk : k < 256) (hi : i ≤ 1000) :
    Calls Try.prog 55 #[rptr Z, .int .u8 (k : Int), .int .i64 (i : Int), .slice Aa na ca] w fun e w' => REnt w w.heap.size Z A c l (enR l k i ahead (.ok p)).1 (enR l k i ahead (.ok p)).2 e w' := by
  obtain ⟨H, hH⟩ : ∃ H, w.heap.size = H := ⟨_, rfl⟩
  rw [hH]
  obtain ⟨W, hW⟩ : ∃ W, W = (w.alloc (.cells #[.slice none 0 0, .slice none 0 0, .int .i64 0, .int .u32 0, .int .u64 0, .int .u16 0, .int .u32 0, .int .u64 0, .int .u16 0] 49)).alloc (.cells #[.slice none 0 0, .slice none 0 0, .int .i64 0, .int .u32 0, .int .u64 0, .int .u16 0, .int .u32 0, .int .u64 0, .int .u16 0] 49) := ⟨_, rfl⟩
  have hwW : Below w.heap.size w W := by rw [hW]; exact (below_new1 _ _).alloc (by simp) _
  have K8 : Hid (Blk W H 49 (enC none 0 0 none 0 0 0 r0 r0).toArray) := by rw [hW]; exact (Blk.new' _ _ _ _ hH).alloc _
  have K9 : Hid (Blk W (H + 1) 49 (enC none 0 0 none 0 0 0 r0 r0).toArray) := by rw [hW]; exact Blk.new' _ _ _ _ (by simp [hH])
  have HD := Lib.hid (h.below hwW)
  have HRZ := Lib.hid h
  have HA := Lib.hid ha
  have HG0 : Hid (w.grownBy W (some Z)) := gz_of hwW _
  have hZ : Z < H := by rw [← hH]; exact h.bz.lt
  have hpl := h.pl
  have HL := Lib.hid h.rd.len
  have HW := Lib.hid hW
  have HH := Lib.hid hH
  have hWs : H + 1 < W.heap.size := K9.out.lt
  obtain ⟨key, hkey⟩ : ∃ t, (txR l (kmay k i) (.ok p)).1 = t := ⟨_, rfl⟩
  obtain ⟨s1, hs1⟩ : ∃ s, (txR l (kmay k i) (.ok p)).2 = s := ⟨_, rfl⟩
  have HK1 : Hid (txR l (kmay k i) (.ok p) = (key, s1)) := Prod.ext hkey hs1
  have HKL : Hid (∀ q, s1 = .ok q → key.length ≤ q) := fun q e => by rw [← hkey]; exact txR_le h.rd.len.symm (hs1.trans e)
  have hEN : Hid (enR l k i ahead (.ok p) = restR l k key (ordR i ahead key s1)) := by show _ = _; unfold enR; rw [hkey, hs1]
  clear h ha hW hwW hkey hs1
  go_enter Try.func55, Try.ntmps55
  go_upto_region 2 with fail
  have e1 : w.heap.size = H := hH
  rw [← HW.out]
  try rw [e1]
  clear e1
  -- the key
  have HB1 := Lib.hid (byte1_any Z A c l (.ok p) p W HD.out)
  obtain ⟨kv, hkv⟩ : ∃ v, b1V l (.ok p) = v := ⟨_, rfl⟩
  rw [hkv] at HB1
  have HKV := Lib.hid hkv
  clear hkv
  go_wp2_with fail
  refine HB1.out.mono ?_
  rintro e w1 ⟨rfl, hd1, hg1⟩
  have HD1 := Lib.hid hd1
  have HG1 := Lib.hid (gz_trans HG0.out hg1)
  have KA := Lib.hid (K8.out.keep_grown hg1 (by simp; omega))
  have KB := Lib.hid (K9.out.keep_grown hg1 (by simp; omega))
  have hs1 : H + 1 < w1.heap.size := KB.out.lt
  clear hd1 hg1 HB1 K8 K9 HG0 HD HW hWs W
  go_upto_region 3 with fail
  go_cut [15] (fun s15 wx => ∃ A1 n1 c1, Blk wx (H + 1) 49 (enC A1 n1 c1 none 0 0 0 r0 r0).toArray ∧ Blk wx H 49 (enC none 0 0 none 0 0 0 r0 r0).toArray ∧ Own wx (H + 2) A1 n1 c1 key ∧ (∃ p', RDS wx Z A c l s1 p') ∧ w.grownBy wx (some Z))
  case first =>
    by_cases hp : p < 224
    · obtain ⟨x, hx⟩ : ∃ v, (l.getD p 0).toNat = v := ⟨_, rfl⟩
      have hxl : x < 256 := by rw [← hx]; exact (l.getD p 0).toNat_lt
      have hkx : kv = (x : Int) := by rw [← HKV.out]; unfold b1V; dsimp only; rw [if_pos hp, hx]
      have hbs : b1S (.ok p) = .ok p := if_pos hp
      rw [hbs] at HD1
      have ht := txR_byte HL.out.symm (kmay k i) hp hx
      rw [HK1.out] at ht
      subst hkx
      have HC := Lib.hid (refkmay_any k i x w1 hk (by omega) (by omega))
      by_cases hy : kmay k i x = true ∧ p + 1 + x ≤ 224
      · rw [if_pos hy] at ht
        injection ht with ht1 ht2
        subst ht1; subst ht2
        rw [hy.1] at HC
        have HT := Lib.hid (rtext_yes Z A c l p x w1 HD1.out hy.2)
        clear hy hx hbs hp
        go_wp2_with (first
          | (go_at_call 58; refine HC.out.mono ?_; rintro e w2 ⟨rfl, rfl⟩)
          | (go_at_call 61; refine HT.out.mono ?_; rintro e w3 ⟨A2, c2, rfl, ho, hd3, hg3⟩; have kb3 := KB.out.keep_grown hg3 (by simp; omega); have z0 := kb3.cell 0; have f0 := kb3.frozen 0))
        have HO3 : Hid (Own w3 (H + 2) A2 x c2 ((l.drop (p + 1)).take x)) := ho.mono (by omega)
        have KA3 := Lib.hid (KA.out.keep_grown hg3 (by simp; omega))
        have HG3 := Lib.hid (gz_trans HG1.out hg3)
        go_meet
        exact ⟨A2, x, c2, kb3.set_ 0 _, KA3.out.far (by show H ≠ H + 1; omega) _, HO3.out.setLow (p := ⟨H + 1, 0, none⟩) (by show H + 1 < H + 2; omega) _, ⟨_, hd3.far (by show Z < H + 1; omega) _⟩, gz_set HG3.out (.inr (by show w.heap.size ≤ H + 1; have := HH.out; omega)) _⟩
      · rw [if_neg hy] at ht
        injection ht with ht1 ht2
        subst ht1; subst ht2
        obtain ⟨bb, hbb⟩ : ∃ b, kmay k i x = b := ⟨_, rfl⟩
        rw [hbb] at HC hy
        have HT := Lib.hid (rtext_no Z A c l p x w1 bb HD1.out (by omega) (by cases bb with | false => exact .inl rfl | true => exact .inr (by rcases Nat.lt_or_ge 224 (p + 1 + x) with h1 | h1; exact h1; exact absurd ⟨rfl, h1⟩ hy)))
        clear hy hx hbs hp hbb
        go_wp2_with (first
          | (go_at_call 58; refine HC.out.mono ?_; rintro e w2 ⟨rfl, rfl⟩)
          | (go_at_call 61; refine HT.out.mono ?_; rintro e w3 ⟨rfl, hd3, hg3⟩; have kb3 := KB.out.keep_grown hg3 (by simp; omega); have z0 := kb3.cell 0; have f0 := kb3.frozen 0))
        have KA3 := Lib.hid (KA.out.keep_grown hg3 (by simp; omega))
        have HG3 := Lib.hid (gz_trans HG1.out hg3)
        go_meet
        exact ⟨none, 0, 0, kb3.set_ 0 _, KA3.out.far (by show H ≠ H + 1; omega) _, Own.nil _ _, ⟨_, hd3.far (by show Z < H + 1; omega) _⟩, gz_set HG3.out (.inr (by show w.heap.size ≤ H + 1; have := HH.out; omega)) _⟩
    · obtain rfl : p = 224 := by omega
      have hkx : kv = -1 := HKV.out.symm
      subst hkx
      have hbs : b1S (.ok 224) = .error 224 := rfl
      rw [hbs] at HD1
      have ht := HK1.out
      rw [txR_end] at ht
      injection ht with ht1 ht2
      subst ht1; subst ht2
      have HC := Lib.hid (refkmay_neg k i w1 hk (by omega))
      have HT := Lib.hid (fun b => rtext_bad Z A c l 224 224 w1 b (-1) HD1.out)
      have z0 := KB.out.cell 0
      have f0 := KB.out.frozen 0
      clear hp hbs
      go_wp2_with (first
        | (go_at_call 58; refine HC.out.mono ?_; rintro e w2 ⟨⟨bb, rfl⟩, rfl⟩)
        | (go_at_call 61; refine (HT.out _).mono ?_; rintro e w3 ⟨rfl, rfl⟩))
      go_meet
      exact ⟨none, 0, 0, KB.out.set_ 0 _, KA.out.far (by show H ≠ H + 1; omega) _, Own.nil _ _, ⟨_, HD1.out.far (by show Z < H + 1; omega) _⟩, gz_set HG1.out (.inr (by show w.heap.size ≤ H + 1; have := HH.out; omega)) _⟩
  case rest =>
    clear HD1 HG1 KA KB hs1 HKV
    obtain ⟨A1, n1, c1, hkb, hka, hok, ⟨p1, hd1⟩, hg1⟩ := hcut
    obtain ⟨w2, hw2⟩ : ∃ w2, w2 = wc := ⟨_, rfl⟩
    rw [← hw2] at hkb hka hok hd1 hg1 ⊢
    clear hw2 wc w1
    have KB := Lib.hid hkb
    have KA := Lib.hid hka
    have HOK := Lib.hid hok
    have HD := Lib.hid hd1
    have HG := Lib.hid hg1
    have HA2 := Lib.hid (rd_gz HA.out HRZ.out hg1)
    have hs2 : H + 1 < w2.heap.size := hkb.lt
    clear hkb hka hok hd1 hg1
    go_upto_region 4 with fail
    go_cut [38] (fun s38 wx => s38 = .bool (ordB i ahead key s1) ∧ Below w2.heap.size w2 wx)
    case first =>
      have kf := HD.out.bz.cell 2
      cases s1 with
      | error f =>
        have e1 : rsF (.error f) = (f : Int) := rfl
        rw [e1] at kf
        have hf0 : ¬ ((f : Int) < 0) := by omega
        clear e1
        go_wp2_with fail
        go_meet
        exact ⟨rfl, Below.refl _ _⟩
      | ok q1 =>
        have e1 : rsF (.ok q1) = -1 := rfl
        rw [e1] at kf
        clear e1
        by_cases hi0 : i = 0
        · have HB : Hid (ordB i ahead key (.ok q1) = false) := by show _ = _; unfold ordB; rw [hi0]; rfl
          have hd2 : ¬ ((i : Int) > 0) := by omega
          have hd5 : decide (0 < i) = false := decide_eq_false (by omega)
          clear hi0
          go_wp2_with fail
          go_meet
          rw [HB.out]
          exact ⟨rfl, Below.refl _ _⟩
        · have hd2 : ((i : Int) > 0) := by omega
          have hd5 : decide (0 < i) = true := decide_eq_true (by omega)
          have kx := KB.out.cell 0
          have HC := Lib.hid (refless_any Aa na ca ahead A1 n1 c1 key w2 HA2.out HOK.out.rd)
          obtain ⟨bl, hbl⟩ : ∃ b, less ahead key = b := ⟨_, rfl⟩
          rw [hbl] at HC
          have HB : Hid (ordB i ahead key (.ok q1) = !bl) := by show _ = _; unfold ordB; rw [hbl, decide_eq_true (by omega)]; rfl
          clear hi0 hbl
          go_wp2_with fail
          refine HC.out.mono ?_
          rintro e w3 ⟨rfl, hdr⟩
          go_wp2_with fail
          go_meet
          rw [HB.out]
          exact ⟨rfl, hdr.below⟩
    case rest =>
      obtain ⟨rfl, hbc⟩ := hcut
      have HD1 := Lib.hid (HD.out.below hbc)
      have KB1 := Lib.hid (KB.out.below hbc KB.out.lt)
      have KA1 := Lib.hid (KA.out.below hbc KA.out.lt)
      have HOK1 := Lib.hid (HOK.out.below hbc)
      have HG1 := Lib.hid (gz_trans HG.out (gz_of hbc _))
      clear hbc HD KB KA HOK HG HA2 hs2 w2
      obtain ⟨w2, hw2⟩ : ∃ w2, w2 = wc := ⟨_, rfl⟩
      rw [← hw2] at HD1 KB1 KA1 HOK1 HG1 ⊢
      clear hw2 wc
      go_upto_if 38 with fail
      go_cut [39] (fun s39 wx => (∃ p', RDS wx Z A c l (ordR i ahead key s1) p') ∧ w2.grownBy wx (some Z))
      case first =>
        cases hob : ordB i ahead key s1 with
        | true =>
          obtain ⟨q1, rfl, hor⟩ := ordR_yes hob
          obtain rfl : p1 = q1 := HD1.out.at_ _ rfl
          have hkl1 := HKL.out p1 rfl
          have hnk := HOK1.out.rd.len
          have kz := HD1.out.bz.cell 1
          have kx := KB1.out.cell 0
          have hpl1 := HD1.out.pl
          have hsub : (p1 : Int) - (n1 : Int) = ((p1 - n1 : Nat) : Int) := by omega
          have hwr : IntKind.i64.wrap ((p1 : Int) - (n1 : Int)) = (p1 : Int) - (n1 : Int) := IntWalk.i64_in _ (by omega)
          have HP : Hid (ordR i ahead key (.ok p1) = .error (p1 - n1)) := by rw [hnk]; exact hor
          have HSUB := Lib.hid hsub
          clear hob hor hkl1 hnk hsub
          go_upto_region 5 with fail
          refine region_gate 12 (fun wx => wx.cell? ⟨Z, 1, none⟩ = some (.int .i64 (p1 : Int)) ∧ wx.cell? ⟨H + 1, 0, none⟩ = some (.slice A1 n1 c1)) (by kernel_rfl) ?th1 (fun hHeld => ?tk1)
          case th1 => ((try dsimp only); exact ⟨kz, kx⟩)
          refine' takeV 0 (oi := _) (d := _) (v := _) ?ti2 ?td2 (by kernel_rfl) (by kernel_rfl) (by kernel_rfl) (by kernel_rfl) (by decide) (fun _ _ _ _ _ h => h) ?tg2 ?ty2 (by assumption) ?tr2
          case ti2 => (simp only [List.getElem?_toArray, List.getElem?_cons_succ, List.getElem?_cons_zero]; rfl)
          case td2 => exact rfl
          case tg2 => exact rfl
          case ty2 => (intro w hSw; (try dsimp only at hSw); go_split_ands; go_simp; try with_reducible rfl)
          simp only [List.setIfInBounds_toArray, List.set_cons_zero, List.set_cons_succ]
          refine' takeV 1 (oi := _) (d := _) (v := _) ?ti3 ?td3 (by kernel_rfl) (by kernel_rfl) (by kernel_rfl) (by kernel_rfl) (by decide) (fun _ _ _ _ _ h => h) ?tg3 ?ty3 (by assumption) ?tr3
          case ti3 => (simp only [List.getElem?_toArray, List.getElem?_cons_succ, List.getElem?_cons_zero]; rfl)
          case td3 => exact rfl
          case tg3 => exact rfl
          case ty3 => (intro w hSw; (try dsimp only at hSw); go_split_ands; go_simp; try with_reducible rfl)
          simp only [List.setIfInBounds_toArray, List.set_cons_zero, List.set_cons_succ]
          refine' takeV 2 (oi := _) (d := _) (v := _) ?ti4 ?td4 (by kernel_rfl) (by kernel_rfl) (by kernel_rfl) (by kernel_rfl) (by decide) (fun _ _ _ _ _ h => h) ?tg4 ?ty4 (by assumption) ?tr4
          case ti4 => (simp only [List.getElem?_toArray, List.getElem?_cons_succ, List.getElem?_cons_zero]; rfl)
          case td4 => exact rfl
          case tg4 => exact rfl
          case ty4 => (intro w hSw; (try dsimp only at hSw); go_split_ands; go_simp; try with_reducible rfl)
          simp only [List.setIfInBounds_toArray, List.set_cons_zero, List.set_cons_succ]
          refine' takeV 3 (oi := _) (d := _) (v := _) ?ti5 ?td5 (by kernel_rfl) (by kernel_rfl) (by kernel_rfl) (by kernel_rfl) (by decide) (fun _ _ _ _ _ h => h) ?tg5 ?ty5 (by assumption) ?tr5
          case ti5 => (simp only [List.getElem?_toArray, List.getElem?_cons_succ, List.getElem?_cons_zero]; rfl)
          case td5 => exact rfl
          case tg5 => exact rfl
          case ty5 => (intro w hSw; (try dsimp only at hSw); go_split_ands; go_simp; try with_reducible rfl)
          simp only [List.setIfInBounds_toArray, List.set_cons_zero, List.set_cons_succ]
          refine' takeV 4 (oi := _) (d := _) (v := _) ?ti6 ?td6 (by kernel_rfl) (by kernel_rfl) (by kernel_rfl) (by kernel_rfl) (by decide) (fun _ _ _ _ _ h => h) ?tg6 ?ty6 (by assumption) ?tr6
          case ti6 => (simp only [List.getElem?_toArray, List.getElem?_cons_succ, List.getElem?_cons_zero]; rfl)
          case td6 => exact rfl
          case tg6 => exact rfl
          case ty6 => (intro w hSw; (try dsimp only at hSw); go_split_ands; go_simp; try with_reducible rfl)
          simp only [List.setIfInBounds_toArray, List.set_cons_zero, List.set_cons_succ]
          refine' takeV 5 (oi := _) (d := _) (v := _) ?ti7 ?td7 (by kernel_rfl) (by kernel_rfl) (by kernel_rfl) (by kernel_rfl) (by decide) (fun _ _ _ _ _ h => h) ?tg7 ?ty7 (by assumption) ?tr7
          case ti7 => (simp only [List.getElem?_toArray, List.getElem?_cons_succ, List.getElem?_cons_zero]; rfl)
          case td7 => exact rfl
          case tg7 => exact rfl
          case ty7 => (intro w hSw; (try dsimp only at hSw); go_split_ands; go_simp; try with_reducible rfl)
          simp only [List.setIfInBounds_toArray, List.set_cons_zero, List.set_cons_succ]
          refine' takeV 6 (oi := _) (d := _) (v := _) ?ti8 ?td8 (by kernel_rfl) (by kernel_rfl) (by kernel_rfl) (by kernel_rfl) (by decide) (fun _ _ _ _ _ h => h) ?tg8 ?ty8 (by assumption) ?tr8
          case ti8 => (simp only [List.getElem?_toArray, List.getElem?_cons_succ, List.getElem?_cons_zero]; rfl)
          case td8 => exact rfl
          case tg8 => exact rfl
          case ty8 => (intro w hSw; (try dsimp only at hSw); go_split_ands; go_simp; try with_reducible rfl)
          simp only [List.setIfInBounds_toArray, List.set_cons_zero, List.set_cons_succ]
          refine' takeV 7 (oi := _) (d := _) (v := _) ?ti9 ?td9 (by kernel_rfl) (by kernel_rfl) (by kernel_rfl) (by kernel_rfl) (by decide) (fun _ _ _ _ _ h => h) ?tg9 ?ty9 (by assumption) ?tr9
          case ti9 => (simp only [List.getElem?_toArray, List.getElem?_cons_succ, List.getElem?_cons_zero]; rfl)
          case td9 => exact rfl
          case tg9 => exact rfl
          case ty9 => (intro w hSw; (try dsimp only at hSw); go_split_ands; go_simp; try with_reducible rfl)
          simp only [List.setIfInBounds_toArray, List.set_cons_zero, List.set_cons_succ]
          refine' takeV 8 (oi := _) (d := _) (v := _) ?ti10 ?td10 (by kernel_rfl) (by kernel_rfl) (by kernel_rfl) (by kernel_rfl) (by decide) (fun _ _ _ _ _ h => h) ?tg10 ?ty10 (by assumption) ?tr10
          case ti10 => (simp only [List.getElem?_toArray, List.getElem?_cons_succ, List.getElem?_cons_zero]; rfl)
          case td10 => exact rfl
          case tg10 => exact rfl
          case ty10 => (intro w hSw; (try dsimp only at hSw); go_split_ands; go_simp; try with_reducible rfl)
          simp only [List.setIfInBounds_toArray, List.set_cons_zero, List.set_cons_succ]
          refine' takeV 9 (oi := _) (d := _) (v := _) ?ti11 ?td11 (by kernel_rfl) (by kernel_rfl) (by kernel_rfl) (by kernel_rfl) (by decide) (fun _ _ _ _ _ h => h) ?tg11 ?ty11 (by assumption) ?tr11
          case ti11 => (simp only [List.getElem?_toArray, List.getElem?_cons_succ, List.getElem?_cons_zero]; rfl)
          case td11 => exact rfl
          case tg11 => exact rfl
          case ty11 => (intro w hSw; (try dsimp only at hSw); go_split_ands; go_simp; try with_reducible rfl)
          simp only [List.setIfInBounds_toArray, List.set_cons_zero, List.set_cons_succ]
          refine' takeV 10 (oi := _) (d := _) (v := _) ?ti12 ?td12 (by kernel_rfl) (by kernel_rfl) (by kernel_rfl) (by kernel_rfl) (by decide) (fun _ _ _ _ _ h => h) ?tg12 ?ty12 (by assumption) ?tr12
          case ti12 => (simp only [List.getElem?_toArray, List.getElem?_cons_succ, List.getElem?_cons_zero]; rfl)
          case td12 => exact rfl
          case tg12 => exact rfl
          case ty12 => (intro w hSw; (try dsimp only at hSw); go_split_ands; go_simp; try with_reducible rfl)
          simp only [List.setIfInBounds_toArray, List.set_cons_zero, List.set_cons_succ]
          obtain ⟨V0, hV0⟩ : ∃ V0, V0 = w2.drew := ⟨_, rfl⟩
          have B0 : Below w2.heap.size w2 V0 := by rw [hV0]; exact (Below.refl _ _).drew
          rw [← hV0]
          clear hV0 hHeld
          have HD2 := Lib.hid (HD1.out.below B0)
          have HG2 : Hid (w2.grownBy V0 (some Z)) := gz_of B0 _
          have k2 := HD2.out.bz.cell 2
          have f2 := HD2.out.bz.frozen 2
          have KBV := Lib.hid (KB1.out.below B0 KB1.out.lt)
          have hdf := HD2.out.fault (p1 - n1)
          rw [← HSUB.out] at hdf
          have HDF := Lib.hid hdf
          have KBF := Lib.hid (KBV.out.far (p := ⟨Z, 2, none⟩) (by show H + 1 ≠ Z; omega) (.int .i64 ((p1 : Int) - (n1 : Int))))
          clear B0 hdf
          refine stepG 11 (by kernel_rfl) (by simp only [List.getElem?_toArray, List.getElem?_cons_succ, List.getElem?_cons_zero]; rfl) (fun K hK => ?_)
          go_simp
          refine hK.out _ _ ?ts13 (fun hHeld => ?_)
          case ts13 => ((try dsimp only); exact ⟨HDF.out.bz.cell 1, KBF.out.cell 0⟩)
          clear hK K
          refine doneG (by kernel_rfl) ?_ _
          clear hHeld
          go_wp2_with fail
          go_meet
          rw [HP.out]
          exact ⟨⟨p1, HDF.out⟩, gz_set HG2.out (.inl rfl) _⟩
        | false =>
          have HP := Lib.hid (ordR_no hob)
          clear hob
          go_wp2_with fail
          go_meet
          rw [HP.out]
          exact ⟨⟨p1, HD1.out⟩, gz_refl _ _⟩
      case rest =>
        obtain ⟨⟨p2, hd2⟩, hg2⟩ := hcut
        obtain ⟨s2, hs2⟩ : ∃ s, ordR i ahead key s1 = s := ⟨_, rfl⟩
        rw [hs2] at hd2
        have HD2 := Lib.hid hd2
        have KB2 := Lib.hid (KB1.out.keep_grown hg2 (by simp; omega))
        have KA2 := Lib.hid (KA1.out.keep_grown hg2 (by simp; omega))
        have HOK2 := Lib.hid (HOK1.out.gz hg2 (by omega))
        have HG2 := Lib.hid (gz_trans HG1.out hg2)
        have hkey0 : Hid (ordR i ahead key s1 = s2) := hs2
        rw [hs2] at hEN
        clear hd2 hg2 HD1 KB1 KA1 HOK1 HG1 hs2 w2
        obtain ⟨w2, hw2⟩ : ∃ w2, w2 = wc := ⟨_, rfl⟩
        rw [← hw2] at HD2 KB2 KA2 HOK2 HG2 ⊢
        clear hw2 wc
        have hs2 : H + 1 < w2.heap.size := KB2.out.lt
        have infoE9 : (Try.prog.info? 49).map (·.size) = some 9 := by kernel_rfl
        by_cases hk2 : k = 2
        · have hkb : ((k : Int) == 2) = true := by rw [beq_iff_eq]; omega
          have HR : Hid (restR l k key s2 = (⟨key, [], 0, r0, (pnR l s2).1⟩, (pnR l s2).2)) := by show _ = _; unfold restR; rw [if_pos hk2]
          have HC := Lib.hid (rref_any Z A c l s2 p2 w2 HD2.out)
          clear hk2
          go_wp2_with fail
          refine HC.out.mono ?_
          rintro e w3 ⟨rfl, ⟨p5, hd5⟩, hg5⟩
          have KX6 := KB2.out.keep_grown hg5 (by simp; omega)
          have z6 := KX6.cell 6
          have z7 := KX6.cell 7
          have z8 := KX6.cell 8
          have f6 := KX6.frozen 6
          have f7 := KX6.frozen 7
          have f8 := KX6.frozen 8
          have KA6 := KA2.out.keep_grown hg5 (by simp; omega)
          have HO6 := HOK2.out.gz hg5 (by omega)
          have HG6 := gz_trans HG2.out hg5
          obtain ⟨q, hq⟩ : ∃ q, (pnR l s2).1 = q := ⟨_, rfl⟩
          rw [hq] at HR
          rw [hq]
          have HQ := Lib.hid hq
          clear hq
          go_upto_region 8 with fail
          obtain ⟨V, hV⟩ : ∃ V, V = ((w3.setCell ⟨H + 1, 6, none⟩ (.int .u32 (q.1 : Int))).setCell ⟨H + 1, 7, none⟩ (.int .u64 (q.2.1 : Int))).setCell ⟨H + 1, 8, none⟩ (.int .u16 (q.2.2 : Int)) := ⟨_, rfl⟩
          have KB3 : Hid (Blk V (H + 1) 49 (enC A1 n1 c1 none 0 0 0 r0 q).toArray) := by rw [hV]; exact ((KX6.set_ 6 _).set_ 7 _).set_ 8 _
          have KA3 : Hid (Blk V H 49 (enC none 0 0 none 0 0 0 r0 r0).toArray) := by rw [hV]; exact far3 KA6 (by omega) _ _ _ _ _ _
          have HD3 : Hid (RDS V Z A c l (pnR l s2).2 p5) := by rw [hV]; exact rset3 hd5 (by omega) _ _ _ _ _ _
          have HG3 : Hid (w.grownBy V (some Z)) := by rw [hV]; exact gset3 HG6 (by have := HH.out; omega) _ _ _ _ _ _
          have HO3 : Hid (Own V (H + 2) A1 n1 c1 key) := by rw [hV]; exact own3 HO6 (by omega) _ _ _ _ _ _
          rw [← hV]
          clear hV z6 z7 z8 f6 f7 f8 KX6 KA6 HO6 HG6 hd5 hg5 HC
          have q0 := KB3.out.cell 0
          have q1 := KB3.out.cell 1
          have q2 := KB3.out.cell 2
          have q3 := KB3.out.cell 3
          have q4 := KB3.out.cell 4
          have q5 := KB3.out.cell 5
          have q6 := KB3.out.cell 6
          have q7 := KB3.out.cell 7
          have q8 := KB3.out.cell 8
          have hii : (Try.prog.info? 49).map (·.size) = some (enC A1 n1 c1 none 0 0 0 r0 q).length := infoE9
          have HII := Lib.hid hii
          clear hii
          go_wp2_with (with_reducible refine wpList_store_blk rfl 49 (.tmp 8) (.tmp 55) rfl rfl (cs := enC A1 n1 c1 none 0 0 0 r0 q) rfl KA3.out (Eq.refl _) HII.out (enC_one _ _ _ _ _ _ _ _ _) ?_; intro wa hka hga)
          rw [hEN, HR.out]
          refine bodyPost_ret (v := EnV A1 n1 c1 none 0 0 0 r0 q) (ret_blk (p := 8) rfl rfl hka _ Try.underlying49 rfl infoE9) rfl (REnt.mk HD3.out HG3.out hga hZ HH.out ?_)
          exact fun _ _ => ⟨HO3.out, Own.nil _ _, rfl, rfl, rfl⟩
        · have hkb : ((k : Int) == 2) = false := by rw [beq_eq_false_iff_ne]; omega
          have HB := Lib.hid (byte1_any Z A c l s2 p2 w2 HD2.out)
          have HL2 : Hid (l.length = 224) := HL.out.symm
          by_cases hbad : ∃ f, b1V l s2 = -1 ∧ b1S s2 = .error f ∧ (restR l k key s2).2 = .error f
          · obtain ⟨f, hf1, hf2, hf3⟩ := hbad
            obtain ⟨xx, hxx⟩ : ∃ x, (restR l k key s2).1 = x := ⟨_, rfl⟩
            have HR : Hid (restR l k key s2 = (xx, .error f)) := Prod.ext hxx hf3
            rw [hf1, hf2] at HB
            clear hf1 hf2 hf3 hk2 hxx
            go_wp2_with fail
            refine HB.out.mono ?_
            rintro e w3 ⟨rfl, hd5, hg5⟩
            have KB3 := Lib.hid (KB2.out.keep_grown hg5 (by simp; omega))
            have KA3 := Lib.hid (KA2.out.keep_grown hg5 (by simp; omega))
            have HD3 := Lib.hid hd5
            have HG3 := Lib.hid (gz_trans HG2.out hg5)
            have kf := hd5.bz.cell 2
            have e1 : rsF (.error f) = (f : Int) := rfl
            rw [e1] at kf
            have hf0 : ((f : Int) ≥ 0) := by omega
            clear hd5 hg5 HB e1
            have q0 := KB3.out.cell 0
            have q1 := KB3.out.cell 1
            have q2 := KB3.out.cell 2
            have q3 := KB3.out.cell 3
            have q4 := KB3.out.cell 4
            have q5 := KB3.out.cell 5
            have q6 := KB3.out.cell 6
            have q7 := KB3.out.cell 7
            have q8 := KB3.out.cell 8
            have hii : (Try.prog.info? 49).map (·.size) = some (enC A1 n1 c1 none 0 0 0 r0 r0).length := infoE9
            have HII := Lib.hid hii
            clear hii
            go_wp2_with (with_reducible refine wpList_store_blk rfl 49 (.tmp 8) (.tmp 72) rfl rfl (cs := enC A1 n1 c1 none 0 0 0 r0 r0) rfl KA3.out (Eq.refl _) HII.out (enC_one _ _ _ _ _ _ _ _ _) ?_; intro wa hka hga)
            rw [hEN, HR.out]
            refine bodyPost_ret (v := EnV A1 n1 c1 none 0 0 0 r0 r0) (ret_blk (p := 8) rfl rfl hka _ Try.underlying49 rfl infoE9) rfl (REnt.mk HD3.out HG3.out hga hZ HH.out ?_)
            exact fun q hq => by cases hq
          · obtain ⟨q2', hq2, hp2⟩ : ∃ q, s2 = .ok q ∧ q < 224 := by
              cases s2 with
              | error f => exact absurd ⟨f, rfl, rfl, by rw [restR_bad]⟩ hbad
              | ok q =>
                rcases Nat.lt_or_ge q 224 with h1 | h1
                · exact ⟨q, rfl, h1⟩
                · have hq : p2 = q := HD2.out.at_ q rfl
                  have : q = 224 := by have := HD2.out.pl; omega
                  subst this
                  refine absurd ⟨224, rfl, rfl, ?_⟩ hbad
                  unfold restR
                  rw [if_neg hk2, tkR_end, if_neg (by decide)]
                  rfl
            subst hq2
            obtain rfl : p2 = q2' := HD2.out.at_ _ rfl
            obtain ⟨x, hx⟩ : ∃ v, (l.getD p2 0).toNat = v := ⟨_, rfl⟩
            have hxl : x < 256 := by rw [← hx]; exact (l.getD p2 0).toNat_lt
            have hb1 : b1V l (.ok p2) = (x : Int) := by unfold b1V; dsimp only; rw [if_pos hp2, hx]
            have hb2 : b1S (.ok p2) = .ok p2 := if_pos hp2
            have hform := tkR_byte HL2.out (fun v => decide (v < 2)) hp2 hx
            rw [hb1, hb2] at HB
            clear hb1 hb2 hbad
            have hw1 : IntKind.i64.wrap ((p2 : Int) + 1) = (p2 : Int) + 1 := IntWalk.i64_in _ (by omega)
            by_cases hx2 : x < 2
            · rw [if_pos (decide_eq_true hx2)] at hform
              have hx3 : ¬ ((x : Int) > 1) := by omega
              go_upto_region 9 with fail
              go_wp2_with fail
              refine HB.out.mono ?_
              rintro e w3 ⟨rfl, hd5, hg5⟩
              have kz1 := hd5.bz.cell 1
              have kz2 := hd5.bz.cell 2
              have fz1 := hd5.bz.frozen 1
              have e1 : rsF (.ok p2) = -1 := rfl
              rw [e1] at kz2
              have KB5 := KB2.out.keep_grown hg5 (by simp; omega)
              have KA5 := KA2.out.keep_grown hg5 (by simp; omega)
              have HO5 := HOK2.out.gz hg5 (by omega)
              have HG5 := gz_trans HG2.out hg5
              have HD5 := Lib.hid hd5
              clear e1 hd5 hg5 HB
              go_upto_region 15 with fail
              obtain ⟨V, hV⟩ : ∃ V, V = w3.setCell ⟨Z, 1, none⟩ (.int .i64 ((p2 : Int) + 1)) := ⟨_, rfl⟩
              have HDV : Hid (RDS V Z A c l (.ok (p2 + 1)) (p2 + 1)) := by rw [hV]; exact HD5.out.move (p2 + 1) (by omega)
              have KBV : Hid (Blk V (H + 1) 49 (enC A1 n1 c1 none 0 0 0 r0 r0).toArray) := by rw [hV]; exact KB5.far (by show H + 1 ≠ Z; omega) _
              have KAV : Hid (Blk V H 49 (enC none 0 0 none 0 0 0 r0 r0).toArray) := by rw [hV]; exact KA5.far (by show H ≠ Z; omega) _
              have HOV : Hid (Own V (H + 2) A1 n1 c1 key) := by rw [hV]; exact HO5.setLow (p := ⟨Z, 1, none⟩) (by show Z < H + 2; omega) _
              have HGV : Hid (w.grownBy V (some Z)) := by rw [hV]; exact gz_set HG5 (.inl rfl) _
              rw [← hV]
              clear hV kz1 kz2 fz1 KB5 KA5 HO5 HG5 HD5
              obtain ⟨p3, hp3⟩ : ∃ p3, p2 + 1 = p3 := ⟨_, rfl⟩
              rw [hp3] at HDV hform
              have hp3l := HDV.out.pl
              have hs3 : H + 1 < V.heap.size := KBV.out.lt
              by_cases hx0 : x = 0
              · subst hx0
                obtain ⟨val, hval⟩ : ∃ t, (txR l (fun v => decide (v ≤ 64)) (.ok p3)).1 = t := ⟨_, rfl⟩
                obtain ⟨s4, hs4⟩ : ∃ s, (txR l (fun v => decide (v ≤ 64)) (.ok p3)).2 = s := ⟨_, rfl⟩
                have HR : Hid (restR l k key (.ok p2) = (⟨key, val, 0, r0, r0⟩, s4)) := by show _ = _; unfold restR; rw [if_neg hk2, hform, if_neg (by show ¬ ((0 : Nat) = 1); decide), ← hval, ← hs4]
                have ht : txR l (fun v => decide (v ≤ 64)) (.ok p3) = (val, s4) := Prod.ext hval hs4
                have HB2 := Lib.hid (byte1_any Z A c l (.ok p3) p3 V HDV.out)
                clear hk2 hval hs4 hform hx hxl hw1 hx2 hx3 hp3
                by_cases h3 : p3 < 224
                · obtain ⟨y, hy⟩ : ∃ v, (l.getD p3 0).toNat = v := ⟨_, rfl⟩
                  have hyl : y < 256 := by rw [← hy]; exact (l.getD p3 0).toNat_lt
                  have hb1 : b1V l (.ok p3) = (y : Int) := by unfold b1V; dsimp only; rw [if_pos h3, hy]
                  have hb2 : b1S (.ok p3) = .ok p3 := if_pos h3
                  rw [hb1, hb2] at HB2
                  rw [txR_byte HL2.out (fun v => decide (v ≤ 64)) h3 hy] at ht
                  have HT := Lib.hid ht
                  clear hb1 hb2 hy ht
                  go_upto_region 16 with fail
                  go_wp2_with fail
                  refine HB2.out.mono ?_
                  rintro e w4 ⟨rfl, hd6, hg6⟩
                  have KBW := Lib.hid (KBV.out.keep_grown hg6 (by simp; omega))
                  have KAW := Lib.hid (KAV.out.keep_grown hg6 (by simp; omega))
                  have HOW := Lib.hid (HOV.out.gz hg6 (by omega))
                  have HGW := Lib.hid (gz_trans HGV.out hg6)
                  have HDW := Lib.hid hd6
                  have hs4w : H + 1 < w4.heap.size := KBW.out.lt
                  clear hd6 hg6 HB2
                  have ht := HT.out
                  clear HT
                  by_cases hyy : y ≤ 64 ∧ p3 + 1 + y ≤ 224
                  · rw [if_pos ⟨decide_eq_true hyy.1, hyy.2⟩] at ht
                    injection ht with ht1 ht2
                    subst ht2
                    have HV := Lib.hid ht1
                    have i64 : (y : Int) ≤ 64 := by omega
                    have HC := Lib.hid (rtext_yes Z A c l p3 y w4 HDW.out hyy.2)
                    clear hyy ht1
                    go_upto_region 18 with (go_at_call 61; refine HC.out.mono ?_; rintro e w5 ⟨A4, c4, rfl, ho7, hd7, hg7⟩; have kb7 := KBW.out.keep_grown hg7 (by simp; omega); have z1 := kb7.cell 1; have f1 := kb7.frozen 1)
                    have hov : Own w5 (H + 2) A4 y c4 val := by rw [← HV.out]; exact ho7.mono (by omega)
                    have KA7 := KAW.out.keep_grown hg7 (by simp; omega)
                    have HO7 := HOW.out.gz hg7 (by omega)
                    have HG7 := gz_trans HGW.out hg7
                    obtain ⟨V3, hV3⟩ : ∃ V3, V3 = w5.setCell ⟨H + 1, 1, none⟩ (.slice A4 y c4) := ⟨_, rfl⟩
                    have KB3 : Hid (Blk V3 (H + 1) 49 (enC A1 n1 c1 A4 y c4 0 r0 r0).toArray) := by rw [hV3]; exact kb7.set_ 1 _
                    have KA3 : Hid (Blk V3 H 49 (enC none 0 0 none 0 0 0 r0 r0).toArray) := by rw [hV3]; exact KA7.far (by show H ≠ H + 1; omega) _
                    have HD3 := Lib.hid (hd7.far (p := ⟨H + 1, 1, none⟩) (by show Z < H + 1; omega) (.slice A4 y c4))
                    have HG3 : Hid (w.grownBy V3 (some Z)) := by rw [hV3]; exact gz_set HG7 (.inr (by show w.heap.size ≤ H + 1; have := HH.out; omega)) _
                    have HO3 : Hid (Own V3 (H + 2) A1 n1 c1 key) := by rw [hV3]; exact HO7.setLow (p := ⟨H + 1, 1, none⟩) (by show H + 1 < H + 2; omega) _
                    have HV3 : Hid (Own V3 (H + 2) A4 y c4 val) := by rw [hV3]; exact hov.setLow (p := ⟨H + 1, 1, none⟩) (by show H + 1 < H + 2; omega) _
                    rw [← hV3] at HD3 ⊢
                    clear hV3 kb7 KA7 HO7 HG7 hd7 hg7 hov z1 f1
                    have q0 := KB3.out.cell 0
                    have q1 := KB3.out.cell 1
                    have q2 := KB3.out.cell 2
                    have q3 := KB3.out.cell 3
                    have q4 := KB3.out.cell 4
                    have q5 := KB3.out.cell 5
                    have q6 := KB3.out.cell 6
                    have q7 := KB3.out.cell 7
                    have q8 := KB3.out.cell 8
                    have hii : (Try.prog.info? 49).map (·.size) = some (enC A1 n1 c1 A4 y c4 0 r0 r0).length := infoE9
                    have HII := Lib.hid hii
                    clear hii
                    go_wp2_with (with_reducible refine wpList_store_blk rfl 49 (.tmp 8) (.tmp 91) rfl rfl (cs := enC A1 n1 c1 A4 y c4 0 r0 r0) rfl KA3.out (Eq.refl _) HII.out (enC_one _ _ _ _ _ _ _ _ _) ?_; intro wa hka hga)
                    rw [hEN, HR.out]
                    refine bodyPost_ret (v := EnV A1 n1 c1 A4 y c4 0 r0 r0) (ret_blk (p := 8) rfl rfl hka _ Try.underlying49 rfl infoE9) rfl (REnt.mk HD3.out HG3.out hga hZ HH.out ?_)
                    exact fun _ _ => ⟨HO3.out, HV3.out, rfl, rfl, rfl⟩
                  · rw [if_neg (fun h => hyy ⟨of_decide_eq_true h.1, h.2⟩)] at ht
                    injection ht with ht1 ht2
                    subst ht1; subst ht2
                    obtain ⟨val, hvl⟩ : ∃ t : List UInt8, t = [] := ⟨_, rfl⟩
                    rw [← hvl] at HR
                    have HV := Lib.hid hvl
                    clear hvl
                    by_cases hy1 : y ≤ 64
                    · have i64 : (y : Int) ≤ 64 := by omega
                      have HC := Lib.hid (rtext_no Z A c l p3 y w4 true HDW.out (by omega) (.inr (by rcases Nat.lt_or_ge 224 (p3 + 1 + y) with h1 | h1; exact h1; exact absurd ⟨hy1, h1⟩ hyy)))
                      clear hyy hy1
                      go_upto_region 18 with (go_at_call 61; refine HC.out.mono ?_; rintro e w5 ⟨rfl, hd7, hg7⟩; have kb7 := KBW.out.keep_grown hg7 (by simp; omega); have z1 := kb7.cell 1; have f1 := kb7.frozen 1)
                      have hov : Own w5 (H + 2) none 0 0 val := by rw [HV.out]; exact Own.nil _ _
                      have KA7 := KAW.out.keep_grown hg7 (by simp; omega)
                      have HO7 := HOW.out.gz hg7 (by omega)
                      have HG7 := gz_trans HGW.out hg7
                      obtain ⟨V3, hV3⟩ : ∃ V3, V3 = w5.setCell ⟨H + 1, 1, none⟩ (.slice none 0 0) := ⟨_, rfl⟩
                      have KB3 : Hid (Blk V3 (H + 1) 49 (enC A1 n1 c1 none 0 0 0 r0 r0).toArray) := by rw [hV3]; exact kb7.set_ 1 _
                      have KA3 : Hid (Blk V3 H 49 (enC none 0 0 none 0 0 0 r0 r0).toArray) := by rw [hV3]; exact KA7.far (by show H ≠ H + 1; omega) _
                      have HD3 := Lib.hid (hd7.far (p := ⟨H + 1, 1, none⟩) (by show Z < H + 1; omega) (.slice none 0 0))
                      have HG3 : Hid (w.grownBy V3 (some Z)) := by rw [hV3]; exact gz_set HG7 (.inr (by show w.heap.size ≤ H + 1; have := HH.out; omega)) _
                      have HO3 : Hid (Own V3 (H + 2) A1 n1 c1 key) := by rw [hV3]; exact HO7.setLow (p := ⟨H + 1, 1, none⟩) (by show H + 1 < H + 2; omega) _
                      have HV3 : Hid (Own V3 (H + 2) none 0 0 val) := by rw [hV3]; exact hov.setLow (p := ⟨H + 1, 1, none⟩) (by show H + 1 < H + 2; omega) _
                      rw [← hV3] at HD3 ⊢
                      clear hV3 kb7 KA7 HO7 HG7 hd7 hg7 hov z1 f1
                      have q0 := KB3.out.cell 0
                      have q1 := KB3.out.cell 1
                      have q2 := KB3.out.cell 2
                      have q3 := KB3.out.cell 3
                      have q4 := KB3.out.cell 4
                      have q5 := KB3.out.cell 5
                      have q6 := KB3.out.cell 6
                      have q7 := KB3.out.cell 7
                      have q8 := KB3.out.cell 8
                      have hii : (Try.prog.info? 49).map (·.size) = some (enC A1 n1 c1 none 0 0 0 r0 r0).length := infoE9
                      have HII := Lib.hid hii
                      clear hii
                      go_wp2_with (with_reducible refine wpList_store_blk rfl 49 (.tmp 8) (.tmp 91) rfl rfl (cs := enC A1 n1 c1 none 0 0 0 r0 r0) rfl KA3.out (Eq.refl _) HII.out (enC_one _ _ _ _ _ _ _ _ _) ?_; intro wa hka hga)
                      rw [hEN, HR.out]
                      refine bodyPost_ret (v := EnV A1 n1 c1 none 0 0 0 r0 r0) (ret_blk (p := 8) rfl rfl hka _ Try.underlying49 rfl infoE9) rfl (REnt.mk HD3.out HG3.out hga hZ HH.out ?_)
                      exact fun _ _ => ⟨HO3.out, HV3.out, rfl, rfl, rfl⟩
                    · have i64 : ¬ ((y : Int) ≤ 64) := by omega
                      have i65 : decide ((y : Int) ≤ 64) = false := decide_eq_false i64
                      have HC := Lib.hid (rtext_no Z A c l p3 y w4 false HDW.out (by omega) (.inl rfl))
                      have i66 : decide (y ≤ 64) = false := decide_eq_false (by omega)
                      have i67 : ¬ (y ≤ 64) := by omega
                      clear hyy hy1
                      go_upto_region 18 with (go_at_call 61; refine HC.out.mono ?_; rintro e w5 ⟨rfl, hd7, hg7⟩; have kb7 := KBW.out.keep_grown hg7 (by simp; omega); have z1 := kb7.cell 1; have f1 := kb7.frozen 1)
                      have hov : Own w5 (H + 2) none 0 0 val := by rw [HV.out]; exact Own.nil _ _
                      have KA7 := KAW.out.keep_grown hg7 (by simp; omega)
                      have HO7 := HOW.out.gz hg7 (by omega)
                      have HG7 := gz_trans HGW.out hg7
                      obtain ⟨V3, hV3⟩ : ∃ V3, V3 = w5.setCell ⟨H + 1, 1, none⟩ (.slice none 0 0) := ⟨_, rfl⟩
                      have KB3 : Hid (Blk V3 (H + 1) 49 (enC A1 n1 c1 none 0 0 0 r0 r0).toArray) := by rw [hV3]; exact kb7.set_ 1 _
                      have KA3 : Hid (Blk V3 H 49 (enC none 0 0 none 0 0 0 r0 r0).toArray) := by rw [hV3]; exact KA7.far (by show H ≠ H + 1; omega) _
                      have HD3 := Lib.hid (hd7.far (p := ⟨H + 1, 1, none⟩) (by show Z < H + 1; omega) (.slice none 0 0))
                      have HG3 : Hid (w.grownBy V3 (some Z)) := by rw [hV3]; exact gz_set HG7 (.inr (by show w.heap.size ≤ H + 1; have := HH.out; omega)) _
                      have HO3 : Hid (Own V3 (H + 2) A1 n1 c1 key) := by rw [hV3]; exact HO7.setLow (p := ⟨H + 1, 1, none⟩) (by show H + 1 < H + 2; omega) _
                      have HV3 : Hid (Own V3 (H + 2) none 0 0 val) := by rw [hV3]; exact hov.setLow (p := ⟨H + 1, 1, none⟩) (by show H + 1 < H + 2; omega) _
                      rw [← hV3] at HD3 ⊢
                      clear hV3 kb7 KA7 HO7 HG7 hd7 hg7 hov z1 f1
                      have q0 := KB3.out.cell 0
                      have q1 := KB3.out.cell 1
                      have q2 := KB3.out.cell 2
                      have q3 := KB3.out.cell 3
                      have q4 := KB3.out.cell 4
                      have q5 := KB3.out.cell 5
                      have q6 := KB3.out.cell 6
                      have q7 := KB3.out.cell 7
                      have q8 := KB3.out.cell 8
                      have hii : (Try.prog.info? 49).map (·.size) = some (enC A1 n1 c1 none 0 0 0 r0 r0).length := infoE9
                      have HII := Lib.hid hii
                      clear hii
                      go_wp2_with (with_reducible refine wpList_store_blk rfl 49 (.tmp 8) (.tmp 91) rfl rfl (cs := enC A1 n1 c1 none 0 0 0 r0 r0) rfl KA3.out (Eq.refl _) HII.out (enC_one _ _ _ _ _ _ _ _ _) ?_; intro wa hka hga)
                      rw [hEN, HR.out]
                      refine bodyPost_ret (v := EnV A1 n1 c1 none 0 0 0 r0 r0) (ret_blk (p := 8) rfl rfl hka _ Try.underlying49 rfl infoE9) rfl (REnt.mk HD3.out HG3.out hga hZ HH.out ?_)
                      exact fun _ _ => ⟨HO3.out, HV3.out, rfl, rfl, rfl⟩
                · obtain rfl : p3 = 224 := by omega
                  have hb1 : b1V l (.ok 224) = -1 := rfl
                  have hb2 : b1S (.ok 224) = .error 224 := rfl
                  rw [hb1, hb2] at HB2
                  rw [txR_end] at ht
                  injection ht with ht1 ht2
                  subst ht1; subst ht2
                  obtain ⟨val, hvl⟩ : ∃ t : List UInt8, t = [] := ⟨_, rfl⟩
                  rw [← hvl] at HR
                  have HV := Lib.hid hvl
                  clear hb1 hb2 hvl h3
                  go_upto_region 16 with fail
                  go_wp2_with fail
                  refine HB2.out.mono ?_
                  rintro e w4 ⟨rfl, hd6, hg6⟩
                  have KBW := Lib.hid (KBV.out.keep_grown hg6 (by simp; omega))
                  have KAW := Lib.hid (KAV.out.keep_grown hg6 (by simp; omega))
                  have HOW := Lib.hid (HOV.out.gz hg6 (by omega))
                  have HGW := Lib.hid (gz_trans HGV.out hg6)
                  have HDW := Lib.hid hd6
                  have hs4w : H + 1 < w4.heap.size := KBW.out.lt
                  clear hd6 hg6 HB2
                  have HC := Lib.hid (rtext_bad Z A c l 224 224 w4 true (-1) HDW.out)
                  go_upto_region 18 with (go_at_call 61; refine HC.out.mono ?_; rintro e w4 ⟨rfl, hww⟩; subst hww; have hd7 := HDW.out; have hg7 := gz_refl w4 (some Z); have kb7 := KBW.out.keep_grown hg7 (by simp; omega); have z1 := kb7.cell 1; have f1 := kb7.frozen 1)
                  have hov : Own w4 (H + 2) none 0 0 val := by rw [HV.out]; exact Own.nil _ _
                  have KA7 := KAW.out.keep_grown hg7 (by simp; omega)
                  have HO7 := HOW.out.gz hg7 (by omega)
                  have HG7 := gz_trans HGW.out hg7
                  obtain ⟨V3, hV3⟩ : ∃ V3, V3 = w4.setCell ⟨H + 1, 1, none⟩ (.slice none 0 0) := ⟨_, rfl⟩
                  have KB3 : Hid (Blk V3 (H + 1) 49 (enC A1 n1 c1 none 0 0 0 r0 r0).toArray) := by rw [hV3]; exact kb7.set_ 1 _
                  have KA3 : Hid (Blk V3 H 49 (enC none 0 0 none 0 0 0 r0 r0).toArray) := by rw [hV3]; exact KA7.far (by show H ≠ H + 1; omega) _
                  have HD3 := Lib.hid (hd7.far (p := ⟨H + 1, 1, none⟩) (by show Z < H + 1; omega) (.slice none 0 0))
                  have HG3 : Hid (w.grownBy V3 (some Z)) := by rw [hV3]; exact gz_set HG7 (.inr (by show w.heap.size ≤ H + 1; have := HH.out; omega)) _
                  have HO3 : Hid (Own V3 (H + 2) A1 n1 c1 key) := by rw [hV3]; exact HO7.setLow (p := ⟨H + 1, 1, none⟩) (by show H + 1 < H + 2; omega) _
                  have HV3 : Hid (Own V3 (H + 2) none 0 0 val) := by rw [hV3]; exact hov.setLow (p := ⟨H + 1, 1, none⟩) (by show H + 1 < H + 2; omega) _
                  rw [← hV3] at HD3 ⊢
                  clear hV3 kb7 KA7 HO7 HG7 hd7 hg7 hov z1 f1
                  have q0 := KB3.out.cell 0
                  have q1 := KB3.out.cell 1
                  have q2 := KB3.out.cell 2
                  have q3 := KB3.out.cell 3
                  have q4 := KB3.out.cell 4
                  have q5 := KB3.out.cell 5
                  have q6 := KB3.out.cell 6
                  have q7 := KB3.out.cell 7
                  have q8 := KB3.out.cell 8
                  have hii : (Try.prog.info? 49).map (·.size) = some (enC A1 n1 c1 none 0 0 0 r0 r0).length := infoE9
                  have HII := Lib.hid hii
                  clear hii
                  go_wp2_with (with_reducible refine wpList_store_blk rfl 49 (.tmp 8) (.tmp 91) rfl rfl (cs := enC A1 n1 c1 none 0 0 0 r0 r0) rfl KA3.out (Eq.refl _) HII.out (enC_one _ _ _ _ _ _ _ _ _) ?_; intro wa hka hga)
                  rw [hEN, HR.out]
                  refine bodyPost_ret (v := EnV A1 n1 c1 none 0 0 0 r0 r0) (ret_blk (p := 8) rfl rfl hka _ Try.underlying49 rfl infoE9) rfl (REnt.mk HD3.out HG3.out hga hZ HH.out ?_)
                  exact fun _ _ => ⟨HO3.out, HV3.out, rfl, rfl, rfl⟩
              · obtain rfl : x = 1 := by omega
                have hw32 : IntKind.i64.wrap ((p3 : Int) + 2) = (p3 : Int) + 2 := IntWalk.i64_in _ (by omega)
                have k0 := HDV.out.bz.cell 0
                have k1 := HDV.out.bz.cell 1
                by_cases h4 : 224 < p3 + 2
                · obtain ⟨xx, hxx⟩ : ∃ x, (restR l k key (.ok p2)).1 = x := ⟨_, rfl⟩
                  have ht2 : tkR l 2 (fun v => decide (64 < v) && decide (v ≤ 1024)) (.ok p3) = (0, .error 224) := tkR_bad (by unfold tk; rw [if_pos h4])
                  have HR : Hid (restR l k key (.ok p2) = (xx, .error 224)) := Prod.ext hxx (by unfold restR; rw [if_neg hk2, hform, if_pos rfl, ht2]; rfl)
                  have i1 : (p3 : Int) + 2 > 224 := by omega
                  have i2 : decide ((p3 : Int) + 2 > 224) = true := decide_eq_true i1
                  have i3 : decide ((224 : Int) < (p3 : Int) + 2) = true := decide_eq_true i1
                  clear hk2 hxx hform hx hxl hw1 hx2 hx3 hp3 ht2 h4 hx0
                  go_upto_region 19 with fail
                  refine region_gate 11 (fun wx => wx.cell? ⟨Z, 0, none⟩ = some (.slice A 224 c) ∧ wx.cell? ⟨Z, 1, none⟩ = some (.int .i64 (p3 : Int))) (by kernel_rfl) ?th14 (fun hHeld => ?tk14)
                  case th14 => ((try dsimp only); exact ⟨k0, k1⟩)
                  refine' takeV 0 (oi := _) (d := _) (v := _) ?ti15 ?td15 (by kernel_rfl) (by kernel_rfl) (by kernel_rfl) (by kernel_rfl) (by decide) (fun _ _ _ _ _ h => h) ?tg15 ?ty15 (by assumption) ?tr15
                  case ti15 => (simp only [List.getElem?_toArray, List.getElem?_cons_succ, List.getElem?_cons_zero]; rfl)
                  case td15 => exact rfl
                  case tg15 => exact rfl
                  case ty15 => (intro w hSw; (try dsimp only at hSw); go_split_ands; go_simp; try with_reducible rfl)
                  simp only [List.setIfInBounds_toArray, List.set_cons_zero, List.set_cons_succ]
                  refine' takeV 1 (oi := _) (d := _) (v := _) ?ti16 ?td16 (by kernel_rfl) (by kernel_rfl) (by kernel_rfl) (by kernel_rfl) (by decide) (fun _ _ _ _ _ h => h) ?tg16 ?ty16 (by assumption) ?tr16
                  case ti16 => (simp only [List.getElem?_toArray, List.getElem?_cons_succ, List.getElem?_cons_zero]; rfl)
                  case td16 => exact rfl
                  case tg16 => exact rfl
                  case ty16 => (intro w hSw; (try dsimp only at hSw); go_split_ands; go_simp; try with_reducible rfl)
                  simp only [List.setIfInBounds_toArray, List.set_cons_zero, List.set_cons_succ]
                  refine' takeV 2 (oi := _) (d := _) (v := _) ?ti17 ?td17 (by kernel_rfl) (by kernel_rfl) (by kernel_rfl) (by kernel_rfl) (by decide) (fun _ _ _ _ _ h => h) ?tg17 ?ty17 (by assumption) ?tr17
                  case ti17 => (simp only [List.getElem?_toArray, List.getElem?_cons_succ, List.getElem?_cons_zero]; rfl)
                  case td17 => exact rfl
                  case tg17 => exact rfl
                  case ty17 => (intro w hSw; (try dsimp only at hSw); go_split_ands; go_simp; try with_reducible rfl)
                  simp only [List.setIfInBounds_toArray, List.set_cons_zero, List.set_cons_succ]
                  refine' takeV 3 (oi := _) (d := _) (v := _) ?ti18 ?td18 (by kernel_rfl) (by kernel_rfl) (by kernel_rfl) (by kernel_rfl) (by decide) (fun _ _ _ _ _ h => h) ?tg18 ?ty18 (by assumption) ?tr18
                  case ti18 => (simp only [List.getElem?_toArray, List.getElem?_cons_succ, List.getElem?_cons_zero]; rfl)
                  case td18 => exact rfl
                  case tg18 => exact rfl
                  case ty18 => (intro w hSw; (try dsimp only at hSw); go_split_ands; go_simp; try with_reducible rfl)
                  simp only [List.setIfInBounds_toArray, List.set_cons_zero, List.set_cons_succ]
                  refine' takeV 4 (oi := _) (d := _) (v := _) ?ti19 ?td19 (by kernel_rfl) (by kernel_rfl) (by kernel_rfl) (by kernel_rfl) (by decide) (fun _ _ _ _ _ h => h) ?tg19 ?ty19 (by assumption) ?tr19
                  case ti19 => (simp only [List.getElem?_toArray, List.getElem?_cons_succ, List.getElem?_cons_zero]; rfl)
                  case td19 => exact rfl
                  case tg19 => exact rfl
                  case ty19 => (intro w hSw; (try dsimp only at hSw); go_split_ands; go_simp; try with_reducible rfl)
                  simp only [List.setIfInBounds_toArray, List.set_cons_zero, List.set_cons_succ]
                  refine' takeV 5 (oi := _) (d := _) (v := _) ?ti20 ?td20 (by kernel_rfl) (by kernel_rfl) (by kernel_rfl) (by kernel_rfl) (by decide) (fun _ _ _ _ _ h => h) ?tg20 ?ty20 (by assumption) ?tr20
                  case ti20 => (simp only [List.getElem?_toArray, List.getElem?_cons_succ, List.getElem?_cons_zero]; rfl)
                  case td20 => exact rfl
                  case tg20 => exact rfl
                  case ty20 => (intro w hSw; (try dsimp only at hSw); go_split_ands; go_simp; try with_reducible rfl)
                  simp only [List.setIfInBounds_toArray, List.set_cons_zero, List.set_cons_succ]
                  refine' takeV 6 (oi := _) (d := _) (v := _) ?ti21 ?td21 (by kernel_rfl) (by kernel_rfl) (by kernel_rfl) (by kernel_rfl) (by decide) (fun _ _ _ _ _ h => h) ?tg21 ?ty21 (by assumption) ?tr21
                  case ti21 => (simp only [List.getElem?_toArray, List.getElem?_cons_succ, List.getElem?_cons_zero]; rfl)
                  case td21 => exact rfl
                  case tg21 => exact rfl
                  case ty21 => (intro w hSw; (try dsimp only at hSw); go_split_ands; go_simp; try with_reducible rfl)
                  simp only [List.setIfInBounds_toArray, List.set_cons_zero, List.set_cons_succ]
                  refine' takeV 7 (oi := _) (d := _) (v := _) ?ti22 ?td22 (by kernel_rfl) (by kernel_rfl) (by kernel_rfl) (by kernel_rfl) (by decide) (fun _ _ _ _ _ h => h) ?tg22 ?ty22 (by assumption) ?tr22
                  case ti22 => (simp only [List.getElem?_toArray, List.getElem?_cons_succ, List.getElem?_cons_zero]; rfl)
                  case td22 => exact rfl
                  case tg22 => exact rfl
                  case ty22 => (intro w hSw; (try dsimp only at hSw); go_split_ands; go_simp; try with_reducible rfl)
                  simp only [List.setIfInBounds_toArray, List.set_cons_zero, List.set_cons_succ]
                  refine' takeV 8 (oi := _) (d := _) (v := _) ?ti23 ?td23 (by kernel_rfl) (by kernel_rfl) (by kernel_rfl) (by kernel_rfl) (by decide) (fun _ _ _ _ _ h => h) ?tg23 ?ty23 (by assumption) ?tr23
                  case ti23 => (simp only [List.getElem?_toArray, List.getElem?_cons_succ, List.getElem?_cons_zero]; rfl)
                  case td23 => exact rfl
                  case tg23 => exact rfl
                  case ty23 => (intro w hSw; (try dsimp only at hSw); go_split_ands; go_simp; try with_reducible rfl)
                  simp only [List.setIfInBounds_toArray, List.set_cons_zero, List.set_cons_succ]
                  refine' takeV 9 (oi := _) (d := _) (v := _) ?ti24 ?td24 (by kernel_rfl) (by kernel_rfl) (by kernel_rfl) (by kernel_rfl) (by decide) (fun _ _ _ _ _ h => h) ?tg24 ?ty24 (by assumption) ?tr24
                  case ti24 => (simp only [List.getElem?_toArray, List.getElem?_cons_succ, List.getElem?_cons_zero]; rfl)
                  case td24 => exact rfl
                  case tg24 => exact rfl
                  case ty24 => (intro w hSw; (try dsimp only at hSw); go_split_ands; go_simp; try with_reducible rfl)
                  simp only [List.setIfInBounds_toArray, List.set_cons_zero, List.set_cons_succ]
                  refine' takeV 10 (oi := _) (d := _) (v := _) ?ti25 ?td25 (by kernel_rfl) (by kernel_rfl) (by kernel_rfl) (by kernel_rfl) (by decide) (fun _ _ _ _ _ h => h) ?tg25 ?ty25 (by assumption) ?tr25
                  case ti25 => (simp only [List.getElem?_toArray, List.getElem?_cons_succ, List.getElem?_cons_zero]; rfl)
                  case td25 => exact rfl
                  case tg25 => exact rfl
                  case ty25 => (intro w hSw; (try dsimp only at hSw); go_split_ands; go_simp; try with_reducible rfl)
                  simp only [List.setIfInBounds_toArray, List.set_cons_zero, List.set_cons_succ]
                  obtain ⟨V4, hV4⟩ : ∃ V4, V4 = V.drew := ⟨_, rfl⟩
                  have B0 : Below V.heap.size V V4 := by rw [hV4]; exact (Below.refl _ _).drew
                  rw [← hV4]
                  clear hV4 hHeld
                  have HDVd := Lib.hid (HDV.out.below B0)
                  have KBVd := Lib.hid (KBV.out.below B0 KBV.out.lt)
                  have KAVd := Lib.hid (KAV.out.below B0 KAV.out.lt)
                  have HGVd := Lib.hid (gz_trans HGV.out (gz_of B0 _))
                  have HOVd := Lib.hid (HOV.out.below B0)
                  clear B0
                  refine doneG (by kernel_rfl) ?_ _
                  clear k0 k1
                  have kz2 := HDVd.out.bz.cell 2
                  have fz2 := HDVd.out.bz.frozen 2
                  go_upto_region 21 with fail
                  obtain ⟨V3, hV3⟩ : ∃ V3, V3 = V4.setCell ⟨Z, 2, none⟩ (.int .i64 224) := ⟨_, rfl⟩
                  have HD3 : Hid (RDS V3 Z A c l (.error 224) p3) := by rw [hV3]; exact HDVd.out.fault 224
                  have KB3 : Hid (Blk V3 (H + 1) 49 (enC A1 n1 c1 none 0 0 0 r0 r0).toArray) := by rw [hV3]; exact KBVd.out.far (by show H + 1 ≠ Z; omega) _
                  have KA3 : Hid (Blk V3 H 49 (enC none 0 0 none 0 0 0 r0 r0).toArray) := by rw [hV3]; exact KAVd.out.far (by show H ≠ Z; omega) _
                  have HG3 : Hid (w.grownBy V3 (some Z)) := by rw [hV3]; exact gz_set HGVd.out (.inl rfl) _
                  rw [← hV3]
                  clear hV3 kz2 fz2
                  have q0 := KB3.out.cell 0
                  have q1 := KB3.out.cell 1
                  have q2 := KB3.out.cell 2
                  have q3 := KB3.out.cell 3
                  have q4 := KB3.out.cell 4
                  have q5 := KB3.out.cell 5
                  have q6 := KB3.out.cell 6
                  have q7 := KB3.out.cell 7
                  have q8 := KB3.out.cell 8
                  have hii : (Try.prog.info? 49).map (·.size) = some (enC A1 n1 c1 none 0 0 0 r0 r0).length := infoE9
                  have HII := Lib.hid hii
                  clear hii
                  go_wp2_with (with_reducible refine wpList_store_blk rfl 49 (.tmp 8) (.tmp 106) rfl rfl (cs := enC A1 n1 c1 none 0 0 0 r0 r0) rfl KA3.out (Eq.refl _) HII.out (enC_one _ _ _ _ _ _ _ _ _) ?_; intro wa hka hga)
                  rw [hEN, HR.out]
                  refine bodyPost_ret (v := EnV A1 n1 c1 none 0 0 0 r0 r0) (ret_blk (p := 8) rfl rfl hka _ Try.underlying49 rfl infoE9) rfl (REnt.mk HD3.out HG3.out hga hZ HH.out ?_)
                  exact fun q hq => by cases hq
                · obtain ⟨y0, hy0⟩ : ∃ v, (l.getD p3 0).toNat = v := ⟨_, rfl⟩
                  obtain ⟨y1, hy1⟩ : ∃ v, (l.getD (p3 + 1) 0).toNat = v := ⟨_, rfl⟩
                  have hl0 : y0 < 256 := by rw [← hy0]; exact (l.getD p3 0).toNat_lt
                  have hl1 : y1 < 256 := by rw [← hy1]; exact (l.getD (p3 + 1) 0).toNat_lt
                  obtain ⟨L, hL⟩ : ∃ L, 256 * y0 + y1 = L := ⟨_, rfl⟩
                  have ht2 := tkR_two HL2.out (fun v => decide (64 < v) && decide (v ≤ 1024)) (p := p3) (v := L) (by omega) (by rw [hy0, hy1, hL])
                  obtain ⟨b, o, rfl, hc⟩ := HDV.out.rd.at_ (by omega)
                  have hce0 := hc p3 (by omega)
                  have hce1 := hc (p3 + 1) (by omega)
                  have hB0 : B8 (l.getD p3 0) = .int .u8 (y0 : Int) := by rw [← hy0]
                  have hB1 : B8 (l.getD (p3 + 1) 0) = .int .u8 (y1 : Int) := by rw [← hy1]
                  rw [hB0] at hce0
                  rw [hB1, ← Nat.add_assoc] at hce1
                  have i1 : ¬ ((p3 : Int) + 2 > 224) := by omega
                  have i2 : decide ((p3 : Int) + 2 > 224) = false := decide_eq_false i1
                  have i3 : decide ((224 : Int) < (p3 : Int) + 2) = false := decide_eq_false i1
                  have HFM := Lib.hid hform
                  have HT2 := Lib.hid ht2
                  have HK2 : Hid (¬ k = 2) := hk2
                  have HLL := Lib.hid hL
                  have hp32 : p3 + 2 ≤ 224 := by omega
                  clear hk2 hform hx hxl hw1 hx2 hx3 hp3 ht2 h4 hx0 hc hB0 hB1 hy0 hy1 hL
                  go_upto_region 19 with fail
                  refine region_gate 11 (fun wx => wx.cell? ⟨Z, 0, none⟩ = some (.slice (some ⟨b, o, none⟩) 224 c) ∧ wx.cell? ⟨Z, 1, none⟩ = some (.int .i64 (p3 : Int))) (by kernel_rfl) ?th26 (fun hHeld => ?tk26)
                  case th26 => ((try dsimp only); exact ⟨k0, k1⟩)
                  refine' takeV 0 (oi := _) (d := _) (v := _) ?ti27 ?td27 (by kernel_rfl) (by kernel_rfl) (by kernel_rfl) (by kernel_rfl) (by decide) (fun _ _ _ _ _ h => h) ?tg27 ?ty27 (by assumption) ?tr27
                  case ti27 => (simp only [List.getElem?_toArray, List.getElem?_cons_succ, List.getElem?_cons_zero]; rfl)
                  case td27 => exact rfl
                  case tg27 => exact rfl
                  case ty27 => (intro w hSw; (try dsimp only at hSw); go_split_ands; go_simp; try with_reducible rfl)
                  simp only [List.setIfInBounds_toArray, List.set_cons_zero, List.set_cons_succ]
                  refine' takeV 1 (oi := _) (d := _) (v := _) ?ti28 ?td28 (by kernel_rfl) (by kernel_rfl) (by kernel_rfl) (by kernel_rfl) (by decide) (fun _ _ _ _ _ h => h) ?tg28 ?ty28 (by assumption) ?tr28
                  case ti28 => (simp only [List.getElem?_toArray, List.getElem?_cons_succ, List.getElem?_cons_zero]; rfl)
                  case td28 => exact rfl
                  case tg28 => exact rfl
                  case ty28 => (intro w hSw; (try dsimp only at hSw); go_split_ands; go_simp; try with_reducible rfl)
                  simp only [List.setIfInBounds_toArray, List.set_cons_zero, List.set_cons_succ]
                  refine' takeV 2 (oi := _) (d := _) (v := _) ?ti29 ?td29 (by kernel_rfl) (by kernel_rfl) (by kernel_rfl) (by kernel_rfl) (by decide) (fun _ _ _ _ _ h => h) ?tg29 ?ty29 (by assumption) ?tr29
                  case ti29 => (simp only [List.getElem?_toArray, List.getElem?_cons_succ, List.getElem?_cons_zero]; rfl)
                  case td29 => exact rfl
                  case tg29 => exact rfl
                  case ty29 => (intro w hSw; (try dsimp only at hSw); go_split_ands; go_simp; try with_reducible rfl)
                  simp only [List.setIfInBounds_toArray, List.set_cons_zero, List.set_cons_succ]
                  refine' takeV 3 (oi := _) (d := _) (v := _) ?ti30 ?td30 (by kernel_rfl) (by kernel_rfl) (by kernel_rfl) (by kernel_rfl) (by decide) (fun _ _ _ _ _ h => h) ?tg30 ?ty30 (by assumption) ?tr30
                  case ti30 => (simp only [List.getElem?_toArray, List.getElem?_cons_succ, List.getElem?_cons_zero]; rfl)
                  case td30 => exact rfl
                  case tg30 => exact rfl
                  case ty30 => (intro w hSw; (try dsimp only at hSw); go_split_ands; go_simp; try with_reducible rfl)
                  simp only [List.setIfInBounds_toArray, List.set_cons_zero, List.set_cons_succ]
                  refine' takeV 4 (oi := _) (d := _) (v := _) ?ti31 ?td31 (by kernel_rfl) (by kernel_rfl) (by kernel_rfl) (by kernel_rfl) (by decide) (fun _ _ _ _ _ h => h) ?tg31 ?ty31 (by assumption) ?tr31
                  case ti31 => (simp only [List.getElem?_toArray, List.getElem?_cons_succ, List.getElem?_cons_zero]; rfl)
                  case td31 => exact rfl
                  case tg31 => exact rfl
                  case ty31 => (intro w hSw; (try dsimp only at hSw); go_split_ands; go_simp; try with_reducible rfl)
                  simp only [List.setIfInBounds_toArray, List.set_cons_zero, List.set_cons_succ]
                  refine' takeV 5 (oi := _) (d := _) (v := _) ?ti32 ?td32 (by kernel_rfl) (by kernel_rfl) (by kernel_rfl) (by kernel_rfl) (by decide) (fun _ _ _ _ _ h => h) ?tg32 ?ty32 (by assumption) ?tr32
                  case ti32 => (simp only [List.getElem?_toArray, List.getElem?_cons_succ, List.getElem?_cons_zero]; rfl)
                  case td32 => exact rfl
                  case tg32 => exact rfl
                  case ty32 => (intro w hSw; (try dsimp only at hSw); go_split_ands; go_simp; try with_reducible rfl)
                  simp only [List.setIfInBounds_toArray, List.set_cons_zero, List.set_cons_succ]
                  refine' takeV 6 (oi := _) (d := _) (v := _) ?ti33 ?td33 (by kernel_rfl) (by kernel_rfl) (by kernel_rfl) (by kernel_rfl) (by decide) (fun _ _ _ _ _ h => h) ?tg33 ?ty33 (by assumption) ?tr33
                  case ti33 => (simp only [List.getElem?_toArray, List.getElem?_cons_succ, List.getElem?_cons_zero]; rfl)
                  case td33 => exact rfl
                  case tg33 => exact rfl
                  case ty33 => (intro w hSw; (try dsimp only at hSw); go_split_ands; go_simp; try with_reducible rfl)
                  simp only [List.setIfInBounds_toArray, List.set_cons_zero, List.set_cons_succ]
                  refine' takeV 7 (oi := _) (d := _) (v := _) ?ti34 ?td34 (by kernel_rfl) (by kernel_rfl) (by kernel_rfl) (by kernel_rfl) (by decide) (fun _ _ _ _ _ h => h) ?tg34 ?ty34 (by assumption) ?tr34
                  case ti34 => (simp only [List.getElem?_toArray, List.getElem?_cons_succ, List.getElem?_cons_zero]; rfl)
                  case td34 => exact rfl
                  case tg34 => exact rfl
                  case ty34 => (intro w hSw; (try dsimp only at hSw); go_split_ands; go_simp; try with_reducible rfl)
                  simp only [List.setIfInBounds_toArray, List.set_cons_zero, List.set_cons_succ]
                  refine' takeV 8 (oi := _) (d := _) (v := _) ?ti35 ?td35 (by kernel_rfl) (by kernel_rfl) (by kernel_rfl) (by kernel_rfl) (by decide) (fun _ _ _ _ _ h => h) ?tg35 ?ty35 (by assumption) ?tr35
                  case ti35 => (simp only [List.getElem?_toArray, List.getElem?_cons_succ, List.getElem?_cons_zero]; rfl)
                  case td35 => exact rfl
                  case tg35 => exact rfl
                  case ty35 => (intro w hSw; (try dsimp only at hSw); go_split_ands; go_simp; try with_reducible rfl)
                  simp only [List.setIfInBounds_toArray, List.set_cons_zero, List.set_cons_succ]
                  refine' takeV 9 (oi := _) (d := _) (v := _) ?ti36 ?td36 (by kernel_rfl) (by kernel_rfl) (by kernel_rfl) (by kernel_rfl) (by decide) (fun _ _ _ _ _ h => h) ?tg36 ?ty36 (by assumption) ?tr36
                  case ti36 => (simp only [List.getElem?_toArray, List.getElem?_cons_succ, List.getElem?_cons_zero]; rfl)
                  case td36 => exact rfl
                  case tg36 => exact rfl
                  case ty36 => (intro w hSw; (try dsimp only at hSw); go_split_ands; go_simp; try with_reducible rfl)
                  simp only [List.setIfInBounds_toArray, List.set_cons_zero, List.set_cons_succ]
                  refine' takeV 10 (oi := _) (d := _) (v := _) ?ti37 ?td37 (by kernel_rfl) (by kernel_rfl) (by kernel_rfl) (by kernel_rfl) (by decide) (fun _ _ _ _ _ h => h) ?tg37 ?ty37 (by assumption) ?tr37
                  case ti37 => (simp only [List.getElem?_toArray, List.getElem?_cons_succ, List.getElem?_cons_zero]; rfl)
                  case td37 => exact rfl
                  case tg37 => exact rfl
                  case ty37 => (intro w hSw; (try dsimp only at hSw); go_split_ands; go_simp; try with_reducible rfl)
                  simp only [List.setIfInBounds_toArray, List.set_cons_zero, List.set_cons_succ]
                  obtain ⟨V4, hV4⟩ : ∃ V4, V4 = V.drew := ⟨_, rfl⟩
                  have B0 : Below V.heap.size V V4 := by rw [hV4]; exact (Below.refl _ _).drew
                  rw [← hV4]
                  clear hV4 hHeld
                  have HDVd := Lib.hid (HDV.out.below B0)
                  have KBVd := Lib.hid (KBV.out.below B0 KBV.out.lt)
                  have KAVd := Lib.hid (KAV.out.below B0 KAV.out.lt)
                  have HGVd := Lib.hid (gz_trans HGV.out (gz_of B0 _))
                  have HOVd := Lib.hid (HOV.out.below B0)
                  have hce0 := (B0.cell (World.block_lt_of_cell? _ _ hce0)).trans hce0
                  have hce1 := (B0.cell (World.block_lt_of_cell? _ _ hce1)).trans hce1
                  clear B0
                  refine doneG (by kernel_rfl) ?_ _
                  clear k0 k1
                  have k0 := HDVd.out.bz.cell 0
                  have k1 := HDVd.out.bz.cell 1
                  go_upto_region 22 with fail
                  have hw31 : IntKind.i64.wrap ((p3 : Int) + 1) = (p3 : Int) + 1 := IntWalk.i64_in _ (by omega)
                  have hwy0 : IntKind.i64.wrap (y0 : Int) = (y0 : Int) := IntWalk.i64_in _ (by omega)
                  have hwy1 : IntKind.i64.wrap (y1 : Int) = (y1 : Int) := IntWalk.i64_in _ (by omega)
                  have hwm : IntKind.i64.wrap (256 * (y0 : Int)) = 256 * (y0 : Int) := IntWalk.i64_in _ (by omega)
                  have hwa : IntKind.i64.wrap (256 * (y0 : Int) + (y1 : Int)) = 256 * (y0 : Int) + (y1 : Int) := IntWalk.i64_in _ (by omega)
                  have j1 : (0 : Int) ≤ (p3 : Int) := by omega
                  have j2 : (p3 : Int) < 224 := by omega
                  have j3 : (0 : Int) ≤ (p3 : Int) + 1 := by omega
                  have j4 : (p3 : Int) + 1 < 224 := by omega
                  have j5 : ((p3 : Int) + 1).toNat = p3 + 1 := by omega
                  have j6 : o + (p3 + 1) = o + p3 + 1 := by omega
                  refine region_gate 26 (fun wx => wx.cell? ⟨Z, 0, none⟩ = some (.slice (some ⟨b, o, none⟩) 224 c) ∧ wx.cell? ⟨Z, 1, none⟩ = some (.int .i64 (p3 : Int)) ∧ wx.cell? ⟨b, o + p3, none⟩ = some (.int .u8 (y0 : Int)) ∧ wx.cell? ⟨b, o + p3 + 1, none⟩ = some (.int .u8 (y1 : Int))) (by kernel_rfl) ?th38 (fun hHeld => ?tk38)
                  case th38 => ((try dsimp only); exact ⟨k0, k1, hce0, hce1⟩)
                  refine' takeV 0 (oi := _) (d := _) (v := _) ?ti39 ?td39 (by kernel_rfl) (by kernel_rfl) (by kernel_rfl) (by kernel_rfl) (by decide) (fun _ _ _ _ _ h => h) ?tg39 ?ty39 (by assumption) ?tr39
                  case ti39 => (simp only [List.getElem?_toArray, List.getElem?_cons_succ, List.getElem?_cons_zero]; rfl)
                  case td39 => exact rfl
                  case tg39 => exact rfl
                  case ty39 => (intro w hSw; (try dsimp only at hSw); go_split_ands; go_simp; try with_reducible rfl)
                  simp only [List.setIfInBounds_toArray, List.set_cons_zero, List.set_cons_succ]
                  refine' takeV 1 (oi := _) (d := _) (v := _) ?ti40 ?td40 (by kernel_rfl) (by kernel_rfl) (by kernel_rfl) (by kernel_rfl) (by decide) (fun _ _ _ _ _ h => h) ?tg40 ?ty40 (by assumption) ?tr40
                  case ti40 => (simp only [List.getElem?_toArray, List.getElem?_cons_succ, List.getElem?_cons_zero]; rfl)
                  case td40 => exact rfl
                  case tg40 => exact rfl
                  case ty40 => (intro w hSw; (try dsimp only at hSw); go_split_ands; go_simp; try with_reducible rfl)
                  simp only [List.setIfInBounds_toArray, List.set_cons_zero, List.set_cons_succ]
                  refine' takeV 2 (oi := _) (d := _) (v := _) ?ti41 ?td41 (by kernel_rfl) (by kernel_rfl) (by kernel_rfl) (by kernel_rfl) (by decide) (fun _ _ _ _ _ h => h) ?tg41 ?ty41 (by assumption) ?tr41
                  case ti41 => (simp only [List.getElem?_toArray, List.getElem?_cons_succ, List.getElem?_cons_zero]; rfl)
                  case td41 => exact rfl
                  case tg41 => exact rfl
                  case ty41 => (intro w hSw; (try dsimp only at hSw); go_split_ands; go_simp; try with_reducible rfl)
                  simp only [List.setIfInBounds_toArray, List.set_cons_zero, List.set_cons_succ]
                  refine' takeV 3 (oi := _) (d := _) (v := _) ?ti42 ?td42 (by kernel_rfl) (by kernel_rfl) (by kernel_rfl) (by kernel_rfl) (by decide) (fun _ _ _ _ _ h => h) ?tg42 ?ty42 (by assumption) ?tr42
                  case ti42 => (simp only [List.getElem?_toArray, List.getElem?_cons_succ, List.getElem?_cons_zero]; rfl)
                  case td42 => exact rfl
                  case tg42 => exact rfl
                  case ty42 => (intro w hSw; (try dsimp only at hSw); go_split_ands; go_simp; try with_reducible rfl)
                  simp only [List.setIfInBounds_toArray, List.set_cons_zero, List.set_cons_succ]
                  refine' takeV 4 (oi := _) (d := _) (v := _) ?ti43 ?td43 (by kernel_rfl) (by kernel_rfl) (by kernel_rfl) (by kernel_rfl) (by decide) (fun _ _ _ _ _ h => h) ?tg43 ?ty43 (by assumption) ?tr43
                  case ti43 => (simp only [List.getElem?_toArray, List.getElem?_cons_succ, List.getElem?_cons_zero]; rfl)
                  case td43 => exact rfl
                  case tg43 => exact rfl
                  case ty43 => (intro w hSw; (try dsimp only at hSw); go_split_ands; go_simp; try with_reducible rfl)
                  simp only [List.setIfInBounds_toArray, List.set_cons_zero, List.set_cons_succ]
                  refine' takeV 5 (oi := _) (d := _) (v := _) ?ti44 ?td44 (by kernel_rfl) (by kernel_rfl) (by kernel_rfl) (by kernel_rfl) (by decide) (fun _ _ _ _ _ h => h) ?tg44 ?ty44 (by assumption) ?tr44
                  case ti44 => (simp only [List.getElem?_toArray, List.getElem?_cons_succ, List.getElem?_cons_zero]; rfl)
                  case td44 => exact rfl
                  case tg44 => exact rfl
                  case ty44 => (intro w hSw; (try dsimp only at hSw); go_split_ands; go_simp; try with_reducible rfl)
                  simp only [List.setIfInBounds_toArray, List.set_cons_zero, List.set_cons_succ]
                  refine' takeV 6 (oi := _) (d := _) (v := _) ?ti45 ?td45 (by kernel_rfl) (by kernel_rfl) (by kernel_rfl) (by kernel_rfl) (by decide) (fun _ _ _ _ _ h => h) ?tg45 ?ty45 (by assumption) ?tr45
                  case ti45 => (simp only [List.getElem?_toArray, List.getElem?_cons_succ, List.getElem?_cons_zero]; rfl)
                  case td45 => exact rfl
                  case tg45 => exact rfl
                  case ty45 => (intro w hSw; (try dsimp only at hSw); go_split_ands; go_simp; try with_reducible rfl)
                  simp only [List.setIfInBounds_toArray, List.set_cons_zero, List.set_cons_succ]
                  refine' takeV 7 (oi := _) (d := _) (v := _) ?ti46 ?td46 (by kernel_rfl) (by kernel_rfl) (by kernel_rfl) (by kernel_rfl) (by decide) (fun _ _ _ _ _ h => h) ?tg46 ?ty46 (by assumption) ?tr46
                  case ti46 => (simp only [List.getElem?_toArray, List.getElem?_cons_succ, List.getElem?_cons_zero]; rfl)
                  case td46 => exact rfl
                  case tg46 => exact rfl
                  case ty46 => (intro w hSw; (try dsimp only at hSw); go_split_ands; go_simp; try with_reducible rfl)
                  simp only [List.setIfInBounds_toArray, List.set_cons_zero, List.set_cons_succ]
                  refine' takeV 8 (oi := _) (d := _) (v := _) ?ti47 ?td47 (by kernel_rfl) (by kernel_rfl) (by kernel_rfl) (by kernel_rfl) (by decide) (fun _ _ _ _ _ h => h) ?tg47 ?ty47 (by assumption) ?tr47
                  case ti47 => (simp only [List.getElem?_toArray, List.getElem?_cons_succ, List.getElem?_cons_zero]; rfl)
                  case td47 => exact rfl
                  case tg47 => exact rfl
                  case ty47 => (intro w hSw; (try dsimp only at hSw); go_split_ands; go_simp; try with_reducible rfl)
                  simp only [List.setIfInBounds_toArray, List.set_cons_zero, List.set_cons_succ]
                  refine' takeV 9 (oi := _) (d := _) (v := _) ?ti48 ?td48 (by kernel_rfl) (by kernel_rfl) (by kernel_rfl) (by kernel_rfl) (by decide) (fun _ _ _ _ _ h => h) ?tg48 ?ty48 (by assumption) ?tr48
                  case ti48 => (simp only [List.getElem?_toArray, List.getElem?_cons_succ, List.getElem?_cons_zero]; rfl)
                  case td48 => exact rfl
                  case tg48 => exact rfl
                  case ty48 => (intro w hSw; (try dsimp only at hSw); go_split_ands; go_simp; try with_reducible rfl)
                  simp only [List.setIfInBounds_toArray, List.set_cons_zero, List.set_cons_succ]
                  refine' takeV 10 (oi := _) (d := _) (v := _) ?ti49 ?td49 (by kernel_rfl) (by kernel_rfl) (by kernel_rfl) (by kernel_rfl) (by decide) (fun _ _ _ _ _ h => h) ?tg49 ?ty49 (by assumption) ?tr49
                  case ti49 => (simp only [List.getElem?_toArray, List.getElem?_cons_succ, List.getElem?_cons_zero]; rfl)
                  case td49 => exact rfl
                  case tg49 => exact rfl
                  case ty49 => (intro w hSw; (try dsimp only at hSw); go_split_ands; go_simp; try with_reducible rfl)
                  simp only [List.setIfInBounds_toArray, List.set_cons_zero, List.set_cons_succ]
                  refine' takeV 11 (oi := _) (d := _) (v := _) ?ti50 ?td50 (by kernel_rfl) (by kernel_rfl) (by kernel_rfl) (by kernel_rfl) (by decide) (fun _ _ _ _ _ h => h) ?tg50 ?ty50 (by assumption) ?tr50
                  case ti50 => (simp only [List.getElem?_toArray, List.getElem?_cons_succ, List.getElem?_cons_zero]; rfl)
                  case td50 => exact rfl
                  case tg50 => exact rfl
                  case ty50 => (intro w hSw; (try dsimp only at hSw); go_split_ands; go_simp; try with_reducible rfl)
                  simp only [List.setIfInBounds_toArray, List.set_cons_zero, List.set_cons_succ]
                  refine' takeV 12 (oi := _) (d := _) (v := _) ?ti51 ?td51 (by kernel_rfl) (by kernel_rfl) (by kernel_rfl) (by kernel_rfl) (by decide) (fun _ _ _ _ _ h => h) ?tg51 ?ty51 (by assumption) ?tr51
                  case ti51 => (simp only [List.getElem?_toArray, List.getElem?_cons_succ, List.getElem?_cons_zero]; rfl)
                  case td51 => exact rfl
                  case tg51 => exact rfl
                  case ty51 => (intro w hSw; (try dsimp only at hSw); go_split_ands; go_simp; try with_reducible rfl)
                  simp only [List.setIfInBounds_toArray, List.set_cons_zero, List.set_cons_succ]
                  refine' takeV 13 (oi := _) (d := _) (v := _) ?ti52 ?td52 (by kernel_rfl) (by kernel_rfl) (by kernel_rfl) (by kernel_rfl) (by decide) (fun _ _ _ _ _ h => h) ?tg52 ?ty52 (by assumption) ?tr52
                  case ti52 => (simp only [List.getElem?_toArray, List.getElem?_cons_succ, List.getElem?_cons_zero]; rfl)
                  case td52 => exact rfl
                  case tg52 => exact rfl
                  case ty52 => (intro w hSw; (try dsimp only at hSw); go_split_ands; go_simp; try with_reducible rfl)
                  simp only [List.setIfInBounds_toArray, List.set_cons_zero, List.set_cons_succ]
                  refine' takeV 14 (oi := _) (d := _) (v := _) ?ti53 ?td53 (by kernel_rfl) (by kernel_rfl) (by kernel_rfl) (by kernel_rfl) (by decide) (fun _ _ _ _ _ h => h) ?tg53 ?ty53 (by assumption) ?tr53
                  case ti53 => (simp only [List.getElem?_toArray, List.getElem?_cons_succ, List.getElem?_cons_zero]; rfl)
                  case td53 => exact rfl
                  case tg53 => exact rfl
                  case ty53 => (intro w hSw; (try dsimp only at hSw); go_split_ands; go_simp; try with_reducible rfl)
                  simp only [List.setIfInBounds_toArray, List.set_cons_zero, List.set_cons_succ]
                  refine' takeV 15 (oi := _) (d := _) (v := _) ?ti54 ?td54 (by kernel_rfl) (by kernel_rfl) (by kernel_rfl) (by kernel_rfl) (by decide) (fun _ _ _ _ _ h => h) ?tg54 ?ty54 (by assumption) ?tr54
                  case ti54 => (simp only [List.getElem?_toArray, List.getElem?_cons_succ, List.getElem?_cons_zero]; rfl)
                  case td54 => exact rfl
                  case tg54 => exact rfl
                  case ty54 => (intro w hSw; (try dsimp only at hSw); go_split_ands; go_simp; try with_reducible rfl)
                  simp only [List.setIfInBounds_toArray, List.set_cons_zero, List.set_cons_succ]
                  refine' takeV 16 (oi := _) (d := _) (v := _) ?ti55 ?td55 (by kernel_rfl) (by kernel_rfl) (by kernel_rfl) (by kernel_rfl) (by decide) (fun _ _ _ _ _ h => h) ?tg55 ?ty55 (by assumption) ?tr55
                  case ti55 => (simp only [List.getElem?_toArray, List.getElem?_cons_succ, List.getElem?_cons_zero]; rfl)
                  case td55 => exact rfl
                  case tg55 => exact rfl
                  case ty55 => (intro w hSw; (try dsimp only at hSw); go_split_ands; go_simp; try with_reducible rfl)
                  simp only [List.setIfInBounds_toArray, List.set_cons_zero, List.set_cons_succ]
                  refine' takeV 17 (oi := _) (d := _) (v := _) ?ti56 ?td56 (by kernel_rfl) (by kernel_rfl) (by kernel_rfl) (by kernel_rfl) (by decide) (fun _ _ _ _ _ h => h) ?tg56 ?ty56 (by assumption) ?tr56
                  case ti56 => (simp only [List.getElem?_toArray, List.getElem?_cons_succ, List.getElem?_cons_zero]; rfl)
                  case td56 => exact rfl
                  case tg56 => exact rfl
                  case ty56 => (intro w hSw; (try dsimp only at hSw); go_split_ands; go_simp; try with_reducible rfl)
                  simp only [List.setIfInBounds_toArray, List.set_cons_zero, List.set_cons_succ]
                  refine' takeV 18 (oi := _) (d := _) (v := _) ?ti57 ?td57 (by kernel_rfl) (by kernel_rfl) (by kernel_rfl) (by kernel_rfl) (by decide) (fun _ _ _ _ _ h => h) ?tg57 ?ty57 (by assumption) ?tr57
                  case ti57 => (simp only [List.getElem?_toArray, List.getElem?_cons_succ, List.getElem?_cons_zero]; rfl)
                  case td57 => exact rfl
                  case tg57 => exact rfl
                  case ty57 => (intro w hSw; (try dsimp only at hSw); go_split_ands; go_simp; try with_reducible rfl)
                  simp only [List.setIfInBounds_toArray, List.set_cons_zero, List.set_cons_succ]
                  refine' takeV 19 (oi := _) (d := _) (v := _) ?ti58 ?td58 (by kernel_rfl) (by kernel_rfl) (by kernel_rfl) (by kernel_rfl) (by decide) (fun _ _ _ _ _ h => h) ?tg58 ?ty58 (by assumption) ?tr58
                  case ti58 => (simp only [List.getElem?_toArray, List.getElem?_cons_succ, List.getElem?_cons_zero]; rfl)
                  case td58 => exact rfl
                  case tg58 => exact rfl
                  case ty58 => (intro w hSw; (try dsimp only at hSw); go_split_ands; go_simp; try with_reducible rfl)
                  simp only [List.setIfInBounds_toArray, List.set_cons_zero, List.set_cons_succ]
                  refine' takeV 20 (oi := _) (d := _) (v := _) ?ti59 ?td59 (by kernel_rfl) (by kernel_rfl) (by kernel_rfl) (by kernel_rfl) (by decide) (fun _ _ _ _ _ h => h) ?tg59 ?ty59 (by assumption) ?tr59
                  case ti59 => (simp only [List.getElem?_toArray, List.getElem?_cons_succ, List.getElem?_cons_zero]; rfl)
                  case td59 => exact rfl
                  case tg59 => exact rfl
                  case ty59 => (intro w hSw; (try dsimp only at hSw); go_split_ands; go_simp; try with_reducible rfl)
                  simp only [List.setIfInBounds_toArray, List.set_cons_zero, List.set_cons_succ]
                  refine' takeV 21 (oi := _) (d := _) (v := _) ?ti60 ?td60 (by kernel_rfl) (by kernel_rfl) (by kernel_rfl) (by kernel_rfl) (by decide) (fun _ _ _ _ _ h => h) ?tg60 ?ty60 (by assumption) ?tr60
                  case ti60 => (simp only [List.getElem?_toArray, List.getElem?_cons_succ, List.getElem?_cons_zero]; rfl)
                  case td60 => exact rfl
                  case tg60 => exact rfl
                  case ty60 => (intro w hSw; (try dsimp only at hSw); go_split_ands; go_simp; try with_reducible rfl)
                  simp only [List.setIfInBounds_toArray, List.set_cons_zero, List.set_cons_succ]
                  refine' takeV 22 (oi := _) (d := _) (v := _) ?ti61 ?td61 (by kernel_rfl) (by kernel_rfl) (by kernel_rfl) (by kernel_rfl) (by decide) (fun _ _ _ _ _ h => h) ?tg61 ?ty61 (by assumption) ?tr61
                  case ti61 => (simp only [List.getElem?_toArray, List.getElem?_cons_succ, List.getElem?_cons_zero]; rfl)
                  case td61 => exact rfl
                  case tg61 => exact rfl
                  case ty61 => (intro w hSw; (try dsimp only at hSw); go_split_ands; go_simp; try with_reducible rfl)
                  simp only [List.setIfInBounds_toArray, List.set_cons_zero, List.set_cons_succ]
                  refine' takeV 23 (oi := _) (d := _) (v := _) ?ti62 ?td62 (by kernel_rfl) (by kernel_rfl) (by kernel_rfl) (by kernel_rfl) (by decide) (fun _ _ _ _ _ h => h) ?tg62 ?ty62 (by assumption) ?tr62
                  case ti62 => (simp only [List.getElem?_toArray, List.getElem?_cons_succ, List.getElem?_cons_zero]; rfl)
                  case td62 => exact rfl
                  case tg62 => exact rfl
                  case ty62 => (intro w hSw; (try dsimp only at hSw); go_split_ands; go_simp; try with_reducible rfl)
                  simp only [List.setIfInBounds_toArray, List.set_cons_zero, List.set_cons_succ]
                  refine' takeV 24 (oi := _) (d := _) (v := _) ?ti63 ?td63 (by kernel_rfl) (by kernel_rfl) (by kernel_rfl) (by kernel_rfl) (by decide) (fun _ _ _ _ _ h => h) ?tg63 ?ty63 (by assumption) ?tr63
                  case ti63 => (simp only [List.getElem?_toArray, List.getElem?_cons_succ, List.getElem?_cons_zero]; rfl)
                  case td63 => exact rfl
                  case tg63 => exact rfl
                  case ty63 => (intro w hSw; (try dsimp only at hSw); go_split_ands; go_simp; try with_reducible rfl)
                  simp only [List.setIfInBounds_toArray, List.set_cons_zero, List.set_cons_succ]
                  refine' takeV 25 (oi := _) (d := _) (v := _) ?ti64 ?td64 (by kernel_rfl) (by kernel_rfl) (by kernel_rfl) (by kernel_rfl) (by decide) (fun _ _ _ _ _ h => h) ?tg64 ?ty64 (by assumption) ?tr64
                  case ti64 => (simp only [List.getElem?_toArray, List.getElem?_cons_succ, List.getElem?_cons_zero]; rfl)
                  case td64 => exact rfl
                  case tg64 => exact rfl
                  case ty64 => (intro w hSw; (try dsimp only at hSw); go_split_ands; go_simp; try with_reducible rfl)
                  simp only [List.setIfInBounds_toArray, List.set_cons_zero, List.set_cons_succ]
                  obtain ⟨V5, hV5⟩ : ∃ V5, V5 = V4.drew := ⟨_, rfl⟩
                  have B0 : Below V4.heap.size V4 V5 := by rw [hV5]; exact (Below.refl _ _).drew
                  rw [← hV5]
                  clear hV5 hHeld
                  have HD5 := Lib.hid (HDVd.out.below B0)
                  have KB5 := Lib.hid (KBVd.out.below B0 KBVd.out.lt)
                  have KA5 := Lib.hid (KAVd.out.below B0 KAVd.out.lt)
                  have HG5 := Lib.hid (gz_trans HGVd.out (gz_of B0 _))
                  have HO5 := Lib.hid (HOVd.out.below B0)
                  have z2 := KB5.out.cell 2
                  have f2 := KB5.out.frozen 2
                  clear B0
                  obtain ⟨LI, hLI⟩ : ∃ LI : Int, 256 * (y0 : Int) + (y1 : Int) = LI := ⟨_, rfl⟩
                  rw [hLI] at hwa
                  refine stepGate 26 (by kernel_rfl) (by kernel_rfl) (by simp only [List.getElem?_toArray, List.getElem?_cons_succ, List.getElem?_cons_zero]; rfl) (fun K hK => ?_)
                  go_simp
                  refine hK.out _ _ ?_
                  clear hK K
                  refine doneG (by kernel_rfl) ?_ _
                  try rw [hLI]
                  have hLI2 : LI = (L : Int) := by rw [← hLI, ← HLL.out]; omega
                  subst hLI2
                  obtain ⟨V6, hV6⟩ : ∃ V6, V6 = V5.setCell ⟨H + 1, 2, none⟩ (.int .i64 (L : Int)) := ⟨_, rfl⟩
                  have KB6 : Hid (Blk V6 (H + 1) 49 (enC A1 n1 c1 none 0 0 (L : Int) r0 r0).toArray) := by rw [hV6]; exact KB5.out.set_ 2 _
                  have KA6 : Hid (Blk V6 H 49 (enC none 0 0 none 0 0 0 r0 r0).toArray) := by rw [hV6]; exact KA5.out.far (by show H ≠ H + 1; omega) _
                  have HD6 : Hid (RDS V6 Z (some ⟨b, o, none⟩) c l (.ok p3) p3) := by rw [hV6]; exact HD5.out.far (by show Z < H + 1; omega) _
                  have HG6 : Hid (w.grownBy V6 (some Z)) := by rw [hV6]; exact gz_set HG5.out (.inr (by show w.heap.size ≤ H + 1; have := HH.out; omega)) _
                  have HO6 : Hid (Own V6 (H + 2) A1 n1 c1 key) := by rw [hV6]; exact HO5.out.setLow (p := ⟨H + 1, 2, none⟩) (by show H + 1 < H + 2; omega) _
                  rw [← hV6]
                  clear hV6 z2 f2 hLI hwa hwm hwy0 hwy1 hw31 j1 j2 j3 j4 j5 j6 k0 k1 hce0 hce1 HD5 KB5 KA5 HG5 HO5 HDVd KBVd KAVd HGVd HOVd i1 i2 i3 hw32
                  have x2 := KB6.out.cell 2
                  have kz1 := HD6.out.bz.cell 1
                  have kz2 := HD6.out.bz.cell 2
                  have fz1 := HD6.out.bz.frozen 1
                  have fz2 := HD6.out.bz.frozen 2
                  have hs6 : H + 1 < V6.heap.size := KB6.out.lt
                  by_cases hLb : 64 < L ∧ L ≤ 1024
                  · have ht2 := HT2.out
                    rw [if_pos (by rw [decide_eq_true hLb.1, decide_eq_true hLb.2]; rfl)] at ht2
                    have HR : Hid (restR l k key (.ok p2) = (⟨key, [], (L : Int), (pnR l (.ok (p3 + 2))).1, r0⟩, (pnR l (.ok (p3 + 2))).2)) := by show _ = _; unfold restR; rw [if_neg HK2.out, HFM.out, if_pos rfl, ht2]
                    have i1 : ¬ ((L : Int) ≤ 64) := by omega
                    have i2 : ¬ ((L : Int) > 1024) := by omega
                    have i3 : decide ((L : Int) ≤ 64) = false := decide_eq_false i1
                    have hw32 : IntKind.i64.wrap ((p3 : Int) + 2) = (p3 : Int) + 2 := IntWalk.i64_in _ (by omega)
                    clear ht2
                    go_upto_region 27 with fail
                    obtain ⟨V7, hV7⟩ : ∃ V7, V7 = V6.setCell ⟨Z, 1, none⟩ (.int .i64 ((p3 : Int) + 2)) := ⟨_, rfl⟩
                    have HD7 : Hid (RDS V7 Z (some ⟨b, o, none⟩) c l (.ok (p3 + 2)) (p3 + 2)) := by rw [hV7]; exact HD6.out.move (p3 + 2) hp32
                    have KB7 : Hid (Blk V7 (H + 1) 49 (enC A1 n1 c1 none 0 0 (L : Int) r0 r0).toArray) := by rw [hV7]; exact KB6.out.far (by show H + 1 ≠ Z; omega) _
                    have KA7 : Hid (Blk V7 H 49 (enC none 0 0 none 0 0 0 r0 r0).toArray) := by rw [hV7]; exact KA6.out.far (by show H ≠ Z; omega) _
                    have HG7 : Hid (w.grownBy V7 (some Z)) := by rw [hV7]; exact gz_set HG6.out (.inl rfl) _
                    have HO7 : Hid (Own V7 (H + 2) A1 n1 c1 key) := by rw [hV7]; exact HO6.out.setLow (p := ⟨Z, 1, none⟩) (by show Z < H + 2; omega) _
                    rw [← hV7]
                    clear hV7 x2 kz1 kz2 fz1 fz2 KB6 KA6 HD6 HG6 HO6 i1 i2 i3 hw32
                    have HC := Lib.hid (rref_any Z _ c l (.ok (p3 + 2)) (p3 + 2) V7 HD7.out)
                    go_wp2_with fail
                    refine HC.out.mono ?_
                    rintro e w8 ⟨rfl, ⟨p8, hd8⟩, hg8⟩
                    have KX6 := KB7.out.keep_grown hg8 (by simp; omega)
                    have z6 := KX6.cell 3
                    have z7 := KX6.cell 4
                    have z8 := KX6.cell 5
                    have f6 := KX6.frozen 3
                    have f7 := KX6.frozen 4
                    have f8 := KX6.frozen 5
                    have KA8 := KA7.out.keep_grown hg8 (by simp; omega)
                    have HO8 := HO7.out.gz hg8 (by omega)
                    have HG8 := gz_trans HG7.out hg8
                    obtain ⟨q, hq⟩ : ∃ q, (pnR l (.ok (p3 + 2))).1 = q := ⟨_, rfl⟩
                    rw [hq] at HR
                    rw [hq]
                    clear hq
                    go_upto_region 28 with fail
                    obtain ⟨V9, hV9⟩ : ∃ V9, V9 = ((w8.setCell ⟨H + 1, 3, none⟩ (.int .u32 (q.1 : Int))).setCell ⟨H + 1, 4, none⟩ (.int .u64 (q.2.1 : Int))).setCell ⟨H + 1, 5, none⟩ (.int .u16 (q.2.2 : Int)) := ⟨_, rfl⟩
                    have KB3 : Hid (Blk V9 (H + 1) 49 (enC A1 n1 c1 none 0 0 (L : Int) q r0).toArray) := by rw [hV9]; exact ((KX6.set_ 3 _).set_ 4 _).set_ 5 _
                    have KA3 : Hid (Blk V9 H 49 (enC none 0 0 none 0 0 0 r0 r0).toArray) := by rw [hV9]; exact far3 KA8 (by omega) _ _ _ _ _ _
                    have HD3 : Hid (RDS V9 Z (some ⟨b, o, none⟩) c l (pnR l (.ok (p3 + 2))).2 p8) := by rw [hV9]; exact rset3 hd8 (by omega) _ _ _ _ _ _
                    have HG3 : Hid (w.grownBy V9 (some Z)) := by rw [hV9]; exact gset3 HG8 (by have := HH.out; omega) _ _ _ _ _ _
                    have HO3 : Hid (Own V9 (H + 2) A1 n1 c1 key) := by rw [hV9]; exact own3 HO8 (by omega) _ _ _ _ _ _
                    rw [← hV9]
                    clear hV9 z6 z7 z8 f6 f7 f8 KX6 KA8 HO8 HG8 hd8 hg8 HC
                    have q0 := KB3.out.cell 0
                    have q1 := KB3.out.cell 1
                    have q2 := KB3.out.cell 2
                    have q3 := KB3.out.cell 3
                    have q4 := KB3.out.cell 4
                    have q5 := KB3.out.cell 5
                    have q6 := KB3.out.cell 6
                    have q7 := KB3.out.cell 7
                    have q8 := KB3.out.cell 8
                    have hii : (Try.prog.info? 49).map (·.size) = some (enC A1 n1 c1 none 0 0 (L : Int) q r0).length := infoE9
                    have HII := Lib.hid hii
                    clear hii
                    go_wp2_with (with_reducible refine wpList_store_blk rfl 49 (.tmp 8) (.tmp 160) rfl rfl (cs := enC A1 n1 c1 none 0 0 (L : Int) q r0) rfl KA3.out (Eq.refl _) HII.out (enC_one _ _ _ _ _ _ _ _ _) ?_; intro wa hka hga)
                    rw [hEN, HR.out]
                    refine bodyPost_ret (v := EnV A1 n1 c1 none 0 0 (L : Int) q r0) (ret_blk (p := 8) rfl rfl hka _ Try.underlying49 rfl infoE9) rfl (REnt.mk HD3.out HG3.out hga hZ HH.out ?_)
                    exact fun _ _ => ⟨HO3.out, Own.nil _ _, rfl, rfl, rfl⟩
                  · have ht2 := HT2.out
                    rw [if_neg (fun h => hLb (by simp only [Bool.and_eq_true, decide_eq_true_eq] at h; exact h))] at ht2
                    obtain ⟨xx, hxx⟩ : ∃ x, (restR l k key (.ok p2)).1 = x := ⟨_, rfl⟩
                    have HR : Hid (restR l k key (.ok p2) = (xx, .error p3)) := Prod.ext hxx (by unfold restR; rw [if_neg HK2.out, HFM.out, if_pos rfl, ht2]; rfl)
                    clear ht2 hxx
                    have hfin : ∀ b1 b2 : Bool, True := fun _ _ => trivial
                    rcases (show L ≤ 64 ∨ (64 < L ∧ 1024 < L) from by omega) with hLc | ⟨hLc, hLd⟩
                    · have i1 : (L : Int) ≤ 64 := by omega
                      have i3 : decide ((L : Int) ≤ 64) = true := decide_eq_true i1
                      clear hLb hfin
                      go_upto_region 25 with fail
                      obtain ⟨V7, hV7⟩ : ∃ V7, V7 = V6.setCell ⟨Z, 2, none⟩ (.int .i64 (p3 : Int)) := ⟨_, rfl⟩
                      have HD3 : Hid (RDS V7 Z (some ⟨b, o, none⟩) c l (.error p3) p3) := by rw [hV7]; exact HD6.out.fault p3
                      have KB3 : Hid (Blk V7 (H + 1) 49 (enC A1 n1 c1 none 0 0 (L : Int) r0 r0).toArray) := by rw [hV7]; exact KB6.out.far (by show H + 1 ≠ Z; omega) _
                      have KA3 : Hid (Blk V7 H 49 (enC none 0 0 none 0 0 0 r0 r0).toArray) := by rw [hV7]; exact KA6.out.far (by show H ≠ Z; omega) _
                      have HG3 : Hid (w.grownBy V7 (some Z)) := by rw [hV7]; exact gz_set HG6.out (.inl rfl) _
                      rw [← hV7]
                      clear hV7 x2 kz1 kz2 fz1 fz2
                      have q0 := KB3.out.cell 0
                      have q1 := KB3.out.cell 1
                      have q2 := KB3.out.cell 2
                      have q3 := KB3.out.cell 3
                      have q4 := KB3.out.cell 4
                      have q5 := KB3.out.cell 5
                      have q6 := KB3.out.cell 6
                      have q7 := KB3.out.cell 7
                      have q8 := KB3.out.cell 8
                      have hii : (Try.prog.info? 49).map (·.size) = some (enC A1 n1 c1 none 0 0 (L : Int) r0 r0).length := infoE9
                      have HII := Lib.hid hii
                      clear hii
                      go_wp2_with (with_reducible refine wpList_store_blk rfl 49 (.tmp 8) (.tmp 148) rfl rfl (cs := enC A1 n1 c1 none 0 0 (L : Int) r0 r0) rfl KA3.out (Eq.refl _) HII.out (enC_one _ _ _ _ _ _ _ _ _) ?_; intro wa hka hga)
                      rw [hEN, HR.out]
                      refine bodyPost_ret (v := EnV A1 n1 c1 none 0 0 (L : Int) r0 r0) (ret_blk (p := 8) rfl rfl hka _ Try.underlying49 rfl infoE9) rfl (REnt.mk HD3.out HG3.out hga hZ HH.out ?_)
                      exact fun q hq => by cases hq
                    · have i1 : ¬ ((L : Int) ≤ 64) := by omega
                      have i3 : decide ((L : Int) ≤ 64) = false := decide_eq_false i1
                      have i2 : (L : Int) > 1024 := by omega
                      clear hLb hfin
                      go_upto_region 25 with fail
                      obtain ⟨V7, hV7⟩ : ∃ V7, V7 = V6.setCell ⟨Z, 2, none⟩ (.int .i64 (p3 : Int)) := ⟨_, rfl⟩
                      have HD3 : Hid (RDS V7 Z (some ⟨b, o, none⟩) c l (.error p3) p3) := by rw [hV7]; exact HD6.out.fault p3
                      have KB3 : Hid (Blk V7 (H + 1) 49 (enC A1 n1 c1 none 0 0 (L : Int) r0 r0).toArray) := by rw [hV7]; exact KB6.out.far (by show H + 1 ≠ Z; omega) _
                      have KA3 : Hid (Blk V7 H 49 (enC none 0 0 none 0 0 0 r0 r0).toArray) := by rw [hV7]; exact KA6.out.far (by show H ≠ Z; omega) _
                      have HG3 : Hid (w.grownBy V7 (some Z)) := by rw [hV7]; exact gz_set HG6.out (.inl rfl) _
                      rw [← hV7]
                      clear hV7 x2 kz1 kz2 fz1 fz2
                      have q0 := KB3.out.cell 0
                      have q1 := KB3.out.cell 1
                      have q2 := KB3.out.cell 2
                      have q3 := KB3.out.cell 3
                      have q4 := KB3.out.cell 4
                      have q5 := KB3.out.cell 5
                      have q6 := KB3.out.cell 6
                      have q7 := KB3.out.cell 7
                      have q8 := KB3.out.cell 8
                      have hii : (Try.prog.info? 49).map (·.size) = some (enC A1 n1 c1 none 0 0 (L : Int) r0 r0).length := infoE9
                      have HII := Lib.hid hii
                      clear hii
                      go_wp2_with (with_reducible refine wpList_store_blk rfl 49 (.tmp 8) (.tmp 148) rfl rfl (cs := enC A1 n1 c1 none 0 0 (L : Int) r0 r0) rfl KA3.out (Eq.refl _) HII.out (enC_one _ _ _ _ _ _ _ _ _) ?_; intro wa hka hga)
                      rw [hEN, HR.out]
                      refine bodyPost_ret (v := EnV A1 n1 c1 none 0 0 (L : Int) r0 r0) (ret_blk (p := 8) rfl rfl hka _ Try.underlying49 rfl infoE9) rfl (REnt.mk HD3.out HG3.out hga hZ HH.out ?_)
                      exact fun q hq => by cases hq
            · rw [if_neg (fun h => hx2 (of_decide_eq_true h))] at hform
              obtain ⟨xx, hxx⟩ : ∃ x, (restR l k key (.ok p2)).1 = x := ⟨_, rfl⟩
              have HR : Hid (restR l k key (.ok p2) = (xx, .error p2)) := Prod.ext hxx (by unfold restR; rw [if_neg hk2, hform, if_neg (by show ¬ ((0 : Nat) = 1); decide)]; rfl)
              have hx3 : ((x : Int) > 1) := by omega
              clear hk2 hxx hform hx2 hx
              go_wp2_with fail
              refine HB.out.mono ?_
              rintro e w3 ⟨rfl, hd5, hg5⟩
              have kz1 := hd5.bz.cell 1
              have kz2 := hd5.bz.cell 2
              have fz2 := hd5.bz.frozen 2
              have KB5 := KB2.out.keep_grown hg5 (by simp; omega)
              have KA5 := KA2.out.keep_grown hg5 (by simp; omega)
              have HG5 := gz_trans HG2.out hg5
              have HD5 := Lib.hid hd5
              clear hd5 hg5 HB
              go_upto_region 12 with fail
              obtain ⟨V, hV⟩ : ∃ V, V = w3.setCell ⟨Z, 2, none⟩ (.int .i64 (p2 : Int)) := ⟨_, rfl⟩
              have HD3 : Hid (RDS V Z A c l (.error p2) p2) := by rw [hV]; exact HD5.out.fault p2
              have KB3 : Hid (Blk V (H + 1) 49 (enC A1 n1 c1 none 0 0 0 r0 r0).toArray) := by rw [hV]; exact KB5.far (by show H + 1 ≠ Z; omega) _
              have KA3 : Hid (Blk V H 49 (enC none 0 0 none 0 0 0 r0 r0).toArray) := by rw [hV]; exact KA5.far (by show H ≠ Z; omega) _
              have HG3 : Hid (w.grownBy V (some Z)) := by rw [hV]; exact gz_set HG5 (.inl rfl) _
              rw [← hV]
              clear hV kz1 kz2 fz2 KB5 KA5 HG5 HD5
              have kf := HD3.out.bz.cell 2
              have e1 : rsF (.error p2) = (p2 : Int) := rfl
              rw [e1] at kf
              have hf0 : ((p2 : Int) ≥ 0) := by omega
              clear e1
              have q0 := KB3.out.cell 0
              have q1 := KB3.out.cell 1
              have q2 := KB3.out.cell 2
              have q3 := KB3.out.cell 3
              have q4 := KB3.out.cell 4
              have q5 := KB3.out.cell 5
              have q6 := KB3.out.cell 6
              have q7 := KB3.out.cell 7
              have q8 := KB3.out.cell 8
              have hii : (Try.prog.info? 49).map (·.size) = some (enC A1 n1 c1 none 0 0 0 r0 r0).length := infoE9
              have HII := Lib.hid hii
              clear hii
              go_wp2_with (with_reducible refine wpList_store_blk rfl 49 (.tmp 8) (.tmp 72) rfl rfl (cs := enC A1 n1 c1 none 0 0 0 r0 r0) rfl KA3.out (Eq.refl _) HII.out (enC_one _ _ _ _ _ _ _ _ _) ?_; intro wa hka hga)
              rw [hEN, HR.out]
              refine bodyPost_ret (v := EnV A1 n1 c1 none 0 0 0 r0 r0) (ret_blk (p := 8) rfl rfl hka _ Try.underlying49 rfl infoE9) rfl (REnt.mk HD3.out HG3.out hga hZ HH.out ?_)
              exact fun q hq => by cases hq
end Go.Proofs.Ytihbpmceggghgaa

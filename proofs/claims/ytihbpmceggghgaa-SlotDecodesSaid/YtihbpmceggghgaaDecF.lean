/- slot.Decode: a walk. -/
import Derived.Test.YtihbpmceggghgaaDecE
import Derived.Laws.EntriesVeiled
import Derived.Deep.CutBlock
import Derived.Deep.LoopGhost
import Derived.Deep.DeepCutAuto
set_option linter.unusedVariables false
set_option linter.unusedSimpArgs false
namespace Go.Proofs.Ytihbpmceggghgaa
open Go.RowKit

set_option maxHeartbeats 3200000 in
theorem decode_bad (A : Option Addr) (n c : Nat) (w : World) (hn : n ≠ 224) (hm : n ≤ 9223372036854775807) :
    Calls Try.prog 22 #[.slice A n c] w fun e w' => e = .returned (.tuple #[NdV 0 0 none 0 0, .int .i64 2, .int .i64 0]) ∧ Below w.heap.size w w' := by
  have hb : ((n : Int) != 224) = true := by rw [bne_iff_ne]; omega
  have hn2 : ¬ ((n : Int) = 224) := by omega
  have HB : Hid (∀ W, Below w.heap.size w W → ∀ v g, w.heap.size ≤ g → Below w.heap.size w (W.setCell ⟨g, 0, none⟩ v)) := fun W h v g hg => h.setCell (p := ⟨g, 0, none⟩) hg v
  go_enter Try.func22, Try.ntmps22
  go_wp2_with fail
  have hX : Blk ((w.alloc (.cells #[.slice A n c] 34)).alloc (.cells #[.int .u8 0, .int .u8 0, .slice none 0 0] 24)) (w.heap.size + 1) 24 #[.int .u8 0, .int .u8 0, .slice none 0 0] := Blk.new' _ _ _ _ (by simp)
  refine bodyPost_ret (v := .tuple #[NdV 0 0 none 0 0, .int .i64 2, .int .i64 0]) ?_ rfl ⟨rfl, ((below_new1 _ _).alloc (by simp) _)⟩
  simp [results, Try.results22, go_sem, hX.cell 0, hX.cell 1, hX.cell 2]
theorem DS.far {w : World} {H : Nat} {A : Option Addr} {c : Nat} {l : List UInt8} {s : RdSt} {p : Nat} (h : DS w H A c l s p) {a : Addr} (ha : a.block = H + 1 ∨ H + 7 ≤ a.block) (u : Value) : DS (w.setCell a u) H A c l s p :=
  ⟨h.bb.far (by omega) _, h.bp.far (by omega) _, h.bf.far (by omega) _, h.bw.far (by omega) _, h.bt.far (by omega) _, h.ba.far (by omega) _, h.rd.blk fun b hb => Below.heap_setCell _ _ _ _ (by have := h.lt b hb; omega), h.lt, h.pl, h.at_⟩
theorem dec_grown (w : World) (g j : Nat) (v : Value) : w.grownBy (w.setCell ⟨g, j, none⟩ v) (some g) := ⟨rfl, rfl, rfl, by simp [World.setCell], fun k _ hk => Below.heap_setCell w _ _ k (fun e => hk (by rw [e]))⟩
theorem Blk.setChild {w : World} {Y : Nat} {T : TypeId} {B1 : Option Addr} {m1 d1 : Nat} {B2 : Option Addr} {m2 d2 : Nat} {L : Int} {r s : Rf} (h : Blk w Y T (enC B1 m1 d1 B2 m2 d2 L r s).toArray) (q : Rf) :
    Blk (((w.setCell ⟨Y, 6, none⟩ (.int .u32 (q.1 : Int))).setCell ⟨Y, 7, none⟩ (.int .u64 (q.2.1 : Int))).setCell ⟨Y, 8, none⟩ (.int .u16 (q.2.2 : Int))) Y T (enC B1 m1 d1 B2 m2 d2 L r q).toArray :=
  ((h.set_ 6 _).set_ 7 _).set_ 8 _
theorem Blk.setChain {w : World} {Y : Nat} {T : TypeId} {B1 : Option Addr} {m1 d1 : Nat} {B2 : Option Addr} {m2 d2 : Nat} {L : Int} {r s : Rf} (h : Blk w Y T (enC B1 m1 d1 B2 m2 d2 L r s).toArray) (q : Rf) :
    Blk (((w.setCell ⟨Y, 3, none⟩ (.int .u32 (q.1 : Int))).setCell ⟨Y, 4, none⟩ (.int .u64 (q.2.1 : Int))).setCell ⟨Y, 5, none⟩ (.int .u16 (q.2.2 : Int))) Y T (enC B1 m1 d1 B2 m2 d2 L q s).toArray :=
  ((h.set_ 3 _).set_ 4 _).set_ 5 _
theorem DS.far3 {w : World} {H : Nat} {A : Option Addr} {c : Nat} {l : List UInt8} {s : RdSt} {p Y : Nat} (h : DS w H A c l s p) (hY : H + 7 ≤ Y) (i j k : Nat) (a b d : Value) : DS (((w.setCell ⟨Y, i, none⟩ a).setCell ⟨Y, j, none⟩ b).setCell ⟨Y, k, none⟩ d) H A c l s p :=
  ((h.far (.inr hY) _).far (.inr hY) _).far (.inr hY) _
theorem Own.low3 {w : World} {B n c Y : Nat} {A : Option Addr} {l : List UInt8} (h : Own w B A n c l) (hY : Y < B) (i j k : Nat) (a b d : Value) : Own (((w.setCell ⟨Y, i, none⟩ a).setCell ⟨Y, j, none⟩ b).setCell ⟨Y, k, none⟩ d) B A n c l :=
  ((h.setLow (p := ⟨Y, i, none⟩) hY _).setLow (p := ⟨Y, j, none⟩) hY _).setLow (p := ⟨Y, k, none⟩) hY _
theorem Fr.set3 {H Y : Nat} {a w : World} (h : Fr H a w) (hY : a.heap.size ≤ Y) (i j k : Nat) (x y z : Value) : Fr H a (((w.setCell ⟨Y, i, none⟩ x).setCell ⟨Y, j, none⟩ y).setCell ⟨Y, k, none⟩ z) :=
  ((h.set_ (p := ⟨Y, i, none⟩) (.inr (.inr hY)) _).set_ (p := ⟨Y, j, none⟩) (.inr (.inr hY)) _).set_ (p := ⟨Y, k, none⟩) (.inr (.inr hY)) _
/-- The loop over the entries: i are read. -/
structure LP (w0 wr : World) (H : Nat) (A : Option Addr) (c : Nat) (l : List UInt8) (k lv : Nat) (s0 : RdSt) (i X : Nat) : Prop where
  ds : ∃ p, DS wr H A c l (ensR l k s0 i).2 p
  kn : ∃ A' c', Blk wr (H + 1) 24 #[.int .u8 (k : Int), .int .u8 (lv : Int), .slice A' (ensR l k s0 i).1.length c'] ∧ OwnN wr (H + 7) A' (ensR l k s0 i).1.length c' (ensR l k s0 i).1
  ki : Blk wr X 3 #[.int .i64 (i : Int)]
  hX : H + 7 ≤ X
  len : (ensR l k s0 i).1.length = i
  bel : Below H w0 wr
/-- Behind the loop over the entries. -/
structure LX (w0 wr : World) (H : Nat) (A : Option Addr) (c : Nat) (l : List UInt8) (k lv : Nat) (s0 : RdSt) (m : Nat) : Prop where
  ds : ∃ p, DS wr H A c l (ensR l k s0 m).2 p
  kn : ∃ A' n' c', Blk wr (H + 1) 24 #[.int .u8 (k : Int), .int .u8 (lv : Int), .slice A' n' c'] ∧ (∀ q, (ensR l k s0 m).2 = .ok q → n' = (ensR l k s0 m).1.length ∧ OwnN wr (H + 7) A' n' c' (ensR l k s0 m).1)
  bel : Below H w0 wr
theorem LP.out {w0 wr : World} {H : Nat} {A : Option Addr} {c : Nat} {l : List UInt8} {k lv : Nat} {s0 : RdSt} {i X : Nat} (h : LP w0 wr H A c l k lv s0 i X) {m : Nat} (hi : i ≤ m) (he : i = m ∨ ∃ f, (ensR l k s0 i).2 = .error f) : LX w0 wr H A c l k lv s0 m := by
  obtain ⟨p, hp⟩ := h.ds
  obtain ⟨A', c', h1, h2⟩ := h.kn
  rcases he with rfl | ⟨f, hf⟩
  · exact ⟨⟨p, hp⟩, ⟨A', _, c', h1, fun q _ => ⟨rfl, h2⟩⟩, h.bel⟩
  · obtain ⟨d, rfl⟩ : ∃ d, m = i + d := ⟨m - i, by omega⟩
    have hb := ensR_bad hf d
    refine ⟨⟨p, ?_⟩, ⟨A', _, c', h1, fun q hq => ?_⟩, h.bel⟩
    · rw [hb, ← hf]; exact hp
    · rw [hb] at hq; cases hq
/-- What slot.Decode leaves. -/
def DecP (l : List UInt8) (H : Nat) (w : World) (e : Ending) (w' : World) : Prop :=
  (match decEnd l with
    | .ok _ => ∃ A' c', e = .returned (.tuple #[NdV (kd l).1 (lv l).1 A' (enEnd l).1.length c', .int .i64 0, .int .i64 0]) ∧ OwnN w' H A' (enEnd l).1.length c' (enEnd l).1
    | .error f => e = .returned (.tuple #[NdV 0 0 none 0 0, .int .i64 5, .int .i64 (f : Int)])) ∧ Below H w w'
theorem DecP.bad {l : List UInt8} {H f : Nat} {w w' : World} (h : decEnd l = .error f) (hb : Below H w w') : DecP l H w (.returned (.tuple #[NdV 0 0 none 0 0, .int .i64 5, .int .i64 (f : Int)])) w' := by
  unfold DecP
  rw [h]
  exact ⟨rfl, hb⟩
theorem DecP.good {l : List UInt8} {H q k v n c : Nat} {A : Option Addr} {w w' : World} (h : decEnd l = .ok q) (hk : (kd l).1 = k) (hv : (lv l).1 = v) (hn : n = (enEnd l).1.length) (ho : OwnN w' H A n c (enEnd l).1) (hb : Below H w w') : DecP l H w (.returned (.tuple #[NdV k v A n c, .int .i64 0, .int .i64 0])) w' := by
  unfold DecP
  rw [h]
  subst hk; subst hv; subst hn
  exact ⟨⟨A, c, rfl, ho⟩, hb⟩
set_option maxRecDepth 100000 in
set_option maxHeartbeats 3200000 in
theorem decode_any (A : Option Addr) (c : Nat) (l : List UInt8) (w : World) (H : Nat) (hH : w.heap.size = H) (h : Rd w A 224 c l) :
    Calls Try.prog 22 #[.slice A 224 c] w fun e w' => DecP l H w e w' := by
  obtain ⟨W, hW⟩ : ∃ W, W = (((((((w.alloc (.cells #[.slice A 224 c] 34)).alloc (.cells #[.int .u8 0, .int .u8 0, .slice none 0 0] 24)).alloc (.cells #[.int .i64 0] 3)).alloc (.cells #[.int .i64 (-1)] 3)).alloc
    (.cells #[fnV 38 #[ptr (H + 1 + 1 + 1)]] 58)).alloc (.cells #[fnV 39 #[ptr (H + 1 + 1 + 1), ptr (H + 1 + 1), ptr (H + 1 + 1 + 1 + 1), ptr H]] 62)).alloc
    (.cells #[fnV 43 #[]] 59)) := ⟨_, rfl⟩
  have hbW : Below H w W := by rw [hW, ← hH]; exact (((((((below_new1 _ _).alloc (by simp) _).alloc (by simp; omega) _).alloc (by simp; omega) _).alloc (by simp; omega) _).alloc (by simp; omega) _).alloc (by simp; omega) _)
  have hd : DS W H A c l (.ok 0) 0 := by
    refine ⟨?_, ?_, ?_, ?_, ?_, ?_, h.below (by rw [hH]; exact hbW), ?_, by omega, fun q e => by injection e⟩
    · rw [hW]; exact ((((((Blk.new' w _ _ H hH).alloc _).alloc _).alloc _).alloc _).alloc _).alloc _
    · rw [hW]; exact ((((Blk.new' _ _ _ (H + 2) (by simp [hH])).alloc _).alloc _).alloc _).alloc _
    · rw [hW]; exact (((Blk.new' _ _ _ (H + 3) (by simp [hH])).alloc _).alloc _).alloc _
    · rw [hW]; exact ((Blk.new' _ _ _ (H + 4) (by simp [hH])).alloc _).alloc _
    · rw [hW]; exact (Blk.new' _ _ _ (H + 5) (by simp [hH])).alloc _
    · rw [hW]; exact Blk.new' _ _ _ (H + 6) (by simp [hH])
    · intro a ha
      obtain ⟨b, o, e, hc⟩ := h.at_ (by omega)
      rw [e] at ha
      injection ha with ha
      subst ha
      rw [← hH]
      exact World.block_lt_of_cell? w _ (hc 0 (by omega))
  have KN : Hid (Blk W (H + 1) 24 #[.int .u8 ((0 : Nat) : Int), .int .u8 ((0 : Nat) : Int), .slice none 0 0]) := by rw [hW]; exact (((((Blk.new' _ _ _ (H + 1) (by simp [hH])).alloc _).alloc _).alloc _).alloc _).alloc _
  have HW := Lib.hid hW
  have HBW := Lib.hid hbW
  have HD := Lib.hid hd
  have hsz := hd.size
  have hHs := Lib.hid hH
  clear hbW hd hW
  go_enter Try.func22, Try.ntmps22
  go_upto_region 9 with fail
  rw [← HW.out]
  have e6 : H + 1 + 1 + 1 + 1 + 1 + 1 = H + 6 := rfl
  have e5 : H + 1 + 1 + 1 + 1 + 1 = H + 5 := rfl
  have e4 : H + 1 + 1 + 1 + 1 = H + 4 := rfl
  have e3 : H + 1 + 1 + 1 = H + 3 := rfl
  have e2 : H + 1 + 1 = H + 2 := rfl
  rw [e6, e5, e4, e3, e2]
  clear hH h e6 e5 e4 e3 e2
  -- the kind
  have C1 := Lib.hid (take_any 46 #[] (fun v => v == 1 || v == 2) 1 H A c l (.ok 0) 0 W HD.out en_6 (fun _ _ => may_kind _) (by omega) (by omega))
  have kt : W.cell? ⟨H + 5, 0, none⟩ = some (fnV 39 #[ptr (H + 3), ptr (H + 2), ptr (H + 4), ptr H]) := HD.out.bt.cell 0
  have HK : Hid (tkR l 1 (fun v => v == 1 || v == 2) (.ok 0) = kd l) := rfl
  rw [HK.out] at C1
  have hkl : (kd l).1 < 256 := by
    have := tkR_le (b := l) (size := 1) (may := fun v => v == 1 || v == 2) (s := .ok 0) (by omega)
    rw [HK.out] at this
    exact this
  obtain ⟨k, hk⟩ : ∃ k, (kd l).1 = k := ⟨_, rfl⟩
  rw [hk] at C1 hkl
  have hw1 : IntKind.u8.wrap (k : Int) = (k : Int) := IntWalk.u8_in _ (by omega)
  go_wp2_with fail
  refine C1.out.mono ?_
  rintro e w1 ⟨p1, rfl, hd1, hf1⟩
  have KN1 := KN.out.fr hf1 (by omega) (by omega)
  have HF1 : Hid (Fr H W w1) := hf1
  have HD1 := Lib.hid hd1
  have n0 := KN1.cell 0
  have z0 := KN1.frozen 0
  clear hd1 hf1 C1 kt HK KN
  go_upto_region 10 with fail
  obtain ⟨W1, hW1⟩ : ∃ W1, W1 = w1.setCell ⟨H + 1, 0, none⟩ (.int .u8 (k : Int)) := ⟨_, rfl⟩
  have HDa : Hid (DS W1 H A c l (kd l).2 p1) := by rw [hW1]; exact HD1.out.far (.inl rfl) _
  have KNa : Hid (Blk W1 (H + 1) 24 #[.int .u8 (k : Int), .int .u8 ((0 : Nat) : Int), .slice none 0 0]) := by rw [hW1]; exact KN1.set_ 0 _
  have HBa : Hid (Below H w W1) := by rw [hW1]; exact (HBW.out.trans (HF1.out.below (by omega) (by omega))).setCell (p := ⟨H + 1, 0, none⟩) (by show H ≤ H + 1; omega) _
  rw [← hW1]
  clear hW1 HD1 KN1 HF1 n0 z0 HBW HW hw1
  -- the level
  have C2 := Lib.hid (take_any 47 #[ptr (H + 1)] (shp k) 1 H A c l (kd l).2 p1 W1 HDa.out en_7 (fun _ _ => may_level KNa.out hkl) (by omega) (by omega))
  have kt : W1.cell? ⟨H + 5, 0, none⟩ = some (fnV 39 #[ptr (H + 3), ptr (H + 2), ptr (H + 4), ptr H]) := HDa.out.bt.cell 0
  have HK : Hid (tkR l 1 (shp k) (kd l).2 = lv l) := by show _ = _; rw [← hk]; rfl
  rw [HK.out] at C2
  have hvl : (lv l).1 < 256 := by
    have := tkR_le (b := l) (size := 1) (may := shp k) (s := (kd l).2) (by omega)
    rw [HK.out] at this
    exact this
  obtain ⟨v, hv⟩ : ∃ v, (lv l).1 = v := ⟨_, rfl⟩
  rw [hv] at C2 hvl
  have hw1 : IntKind.u8.wrap (v : Int) = (v : Int) := IntWalk.u8_in _ (by omega)
  go_wp2_with fail
  refine C2.out.mono ?_
  rintro e w1 ⟨p2, rfl, hd1, hf1⟩
  have KN1 := KNa.out.fr hf1 (by omega) (by omega)
  have HF1 : Hid (Fr H W1 w1) := hf1
  have HD1 := Lib.hid hd1
  have n0 := KN1.cell 1
  have z0 := KN1.frozen 1
  have hsa := HDa.out.size
  clear hd1 hf1 C2 kt HK KNa
  go_upto_region 11 with fail
  obtain ⟨W2, hW2⟩ : ∃ W2, W2 = w1.setCell ⟨H + 1, 1, none⟩ (.int .u8 (v : Int)) := ⟨_, rfl⟩
  have HDb : Hid (DS W2 H A c l (lv l).2 p2) := by rw [hW2]; exact HD1.out.far (.inl rfl) _
  have KNb : Hid (Blk W2 (H + 1) 24 #[.int .u8 (k : Int), .int .u8 (v : Int), .slice none 0 0]) := by rw [hW2]; exact KN1.set_ 1 _
  have HBb : Hid (Below H w W2) := by rw [hW2]; exact (HBa.out.trans (HF1.out.below (by omega) (by omega))).setCell (p := ⟨H + 1, 1, none⟩) (by show H ≤ H + 1; omega) _
  rw [← hW2]
  clear hW2 HD1 KN1 HF1 n0 z0 HBa HDa hw1
  -- the count
  have C3 := Lib.hid (take_any 48 #[ptr (H + 1)] (fun x => decide (0 < x) || k == 1) 1 H A c l (lv l).2 p2 W2 HDb.out en_8 (fun _ _ => may_count KNb.out) (by omega) (by omega))
  have kt : W2.cell? ⟨H + 5, 0, none⟩ = some (fnV 39 #[ptr (H + 3), ptr (H + 2), ptr (H + 4), ptr H]) := HDb.out.bt.cell 0
  have HK : Hid (tkR l 1 (fun x => decide (0 < x) || k == 1) (lv l).2 = ct l) := by show _ = _; rw [← hk]; rfl
  rw [HK.out] at C3
  have hcl : (ct l).1 < 256 := by
    have := tkR_le (b := l) (size := 1) (may := fun x => decide (0 < x) || k == 1) (s := (lv l).2) (by omega)
    rw [HK.out] at this
    exact this
  obtain ⟨m, hm⟩ : ∃ m, (ct l).1 = m := ⟨_, rfl⟩
  rw [hm] at C3 hcl
  go_wp2_with fail
  refine C3.out.mono ?_
  rintro e w1 ⟨p3, rfl, hd1, hf1⟩
  have KN1 := KNb.out.fr hf1 (by omega) (by omega)
  have HBc : Hid (Below H w w1) := HBb.out.trans (hf1.below (by omega) (by have := HDb.out.size; omega))
  have HDc := Lib.hid hd1
  have KNc := Lib.hid KN1
  clear hd1 hf1 C3 kt HK KNb KN1 HBb HDb hsa hsz
  obtain ⟨s0, hs0⟩ : ∃ s0, (ct l).2 = s0 := ⟨_, rfl⟩
  rw [hs0] at HDc
  have HK : Hid ((kd l).1 = k ∧ (lv l).1 = v ∧ (ct l).1 = m ∧ (ct l).2 = s0) := ⟨hk, hv, hm, hs0⟩
  clear hk hv hm hs0
  have hs7 := HDc.out.size
  go_upto_region 12 with fail
  obtain ⟨W3, hW3⟩ : ∃ W3, W3 = w1.alloc (.cells #[.int .i64 ((0 : Nat) : Int)] 3) := ⟨_, rfl⟩
  have hX : Blk W3 w1.heap.size 3 #[.int .i64 ((0 : Nat) : Int)] := by rw [hW3]; exact Blk.new _ _ _
  have hbx : Below w1.heap.size w1 W3 := by rw [hW3]; exact below_new1 _ _
  have HLP : Hid (LP w W3 H A c l k v s0 0 w1.heap.size) := ⟨⟨p3, HDc.out.fr hbx⟩, ⟨none, 0, KNc.out.below hbx (by omega), OwnN.nil _ _ _⟩, hX, hs7, rfl, HBc.out.trans (hbx.mono (by omega))⟩
  clear hX hbx HBc KNc
  go_upto_block 0 with fail
  have hw0 : w1.alloc (.cells #[.int .i64 0] 3) = W3 := hW3.symm
  rw [hw0]
  clear hw0 hW3
  go_cut [13] (fun s13 wx => LX w wx H A c l k v s0 m)
  case first =>
    go_wp2_with fail
    go_loopg [13] m (fun gk z13 wr => ∃ i X : Nat, z13 = .pointer (some ⟨X, 0, none⟩) ∧ i + gk = m ∧ LP w wr H A c l k v s0 i X)
    case atStart => exact ⟨0, _, rfl, Nat.zero_add _, HLP.out⟩
    case round =>
      obtain ⟨i, X, rfl, hig, hlp⟩ := hrel
      have HLPr := Lib.hid hlp
      have HIG := Lib.hid hig
      obtain ⟨p, hd⟩ := hlp.ds
      obtain ⟨A3, c3, hkn, hown⟩ := hlp.kn
      have hX7 := hlp.hX
      have HKI := Lib.hid hlp.ki
      have HKN := Lib.hid hkn
      have HOW := Lib.hid hown
      have HD1 := Lib.hid hd
      have HLN := Lib.hid hlp.len
      have HBR := Lib.hid hlp.bel
      have ki := hlp.ki.cell 0
      have kf := hd.bf.cell 0
      obtain ⟨acc, hacc⟩ : ∃ a, (ensR l k s0 i).1 = a := ⟨_, rfl⟩
      obtain ⟨s, hs⟩ : ∃ s, (ensR l k s0 i).2 = s := ⟨_, rfl⟩
      rw [hacc] at HKN HOW HLN
      rw [hs] at HD1 kf
      have HS := Lib.hid hs
      have HACC := Lib.hid hacc
      have him : i ≤ m := by omega
      clear hlp hd hkn hown hs hacc hig
      by_cases hlt : i < m
      · cases s with
        | error f =>
          have e1 : stF (.error f) = (f : Int) := rfl
          rw [e1] at kf
          have hf0 : ¬ ((f : Int) < 0) := by omega
          clear e1
          go_wp2_with fail
          go_meet
          exact HLPr.out.out him (.inr ⟨f, HS.out⟩)
        | ok q =>
          obtain rfl : p = q := HD1.out.at_ _ rfl
          have e1 : stF (.ok p) = -1 := rfl
          rw [e1] at kf
          clear e1
          have hX8 : X < wr.heap.size := HKI.out.lt
          have h7r := HD1.out.size
          go_upto_region 16 with fail
          obtain ⟨W1, hW1⟩ : ∃ W1, W1 = wr.alloc (.cells #[.slice none 0 0, .slice none 0 0, .int .i64 0, .int .u32 0, .int .u64 0, .int .u16 0, .int .u32 0, .int .u64 0, .int .u16 0] 49) := ⟨_, rfl⟩
          obtain ⟨Y, hY⟩ : ∃ Y, wr.heap.size = Y := ⟨_, rfl⟩
          have hb1 : Below wr.heap.size wr W1 := by rw [hW1]; exact below_new1 _ _
          have KX1 : Blk W1 Y 49 #[.slice none 0 0, .slice none 0 0, .int .i64 0, .int .u32 0, .int .u64 0, .int .u16 0, .int .u32 0, .int .u64 0, .int .u16 0] := by rw [hW1]; exact Blk.new' _ _ _ _ hY
          have KN1 := Lib.hid (HKN.out.below hb1 HKN.out.lt)
          have KI1 := Lib.hid (HKI.out.below hb1 HKI.out.lt)
          have HDr := Lib.hid (HD1.out.fr hb1)
          have C := Lib.hid (text_any 49 #[ptr (H + 1), ptr X] (kmay k i) H A c l (.ok p) p W1 HDr.out en_9 (fun _ _ => may_key KN1.out KI1.out hkl (by omega)))
          rw [← hW1, hY]
          have HFr1 : Hid (Fr H wr W1) := Fr.of hb1
          clear hW1 hb1 kf ki HDr
          obtain ⟨key, hkey⟩ : ∃ t, (txR l (kmay k i) (.ok p)).1 = t := ⟨_, rfl⟩
          obtain ⟨s1, hs1⟩ : ∃ s, (txR l (kmay k i) (.ok p)).2 = s := ⟨_, rfl⟩
          have HKL : Hid (∀ q, s1 = .ok q → key.length ≤ q) := fun q e => by
            rw [← hkey]
            exact txR_le HDc.out.rd.len.symm (hs1.trans e)
          rw [hkey] at C
          rw [hs1] at C
          have HK1 : Hid ((txR l (kmay k i) (.ok p)).1 = key ∧ (txR l (kmay k i) (.ok p)).2 = s1) := ⟨hkey, hs1⟩
          clear hkey hs1
          go_wp2_with fail
          refine C.out.mono ?_
          rintro e w2 ⟨A1, n1, c1, rfl, ho1, ⟨p1, hd1⟩, hf1⟩
          have KX2 := KX1.fr hf1 (by omega) (by omega)
          have x0 := KX2.cell 0
          have y0 := KX2.frozen 0
          have HO1 := Lib.hid ho1
          have HDs := Lib.hid hd1
          have HFr2 := Lib.hid (HFr1.out.trans hf1)
          have KN2 := Lib.hid (KN1.out.fr hf1 (by omega) (by omega))
          have KI2 := Lib.hid (KI1.out.fr hf1 (by omega) (by omega))
          have hY1 := KX1.lt
          clear ho1 hd1 hf1 C KN1 KI1 KX1 HFr1
          go_upto_region 17 with fail
          obtain ⟨W2, hW2⟩ : ∃ W2, W2 = w2.setCell ⟨Y, 0, none⟩ (.slice A1 n1 c1) := ⟨_, rfl⟩
          have HD2 : Hid (DS W2 H A c l s1 p1) := by rw [hW2]; exact HDs.out.far (.inr (by show H + 7 ≤ Y; omega)) _
          have KX3 : Hid (Blk W2 Y 49 (enC A1 n1 c1 none 0 0 0 r0 r0).toArray) := by rw [hW2]; exact KX2.set_ 0 _
          have HOk : Hid (Own W2 (Y + 1) A1 n1 c1 key) := by rw [hW2]; exact (HO1.out.setLow (p := ⟨Y, 0, none⟩) hY1 _).mono hY1
          have HFr3 : Hid (Fr H wr W2) := by rw [hW2]; exact HFr2.out.set_ (.inr (.inr (by show wr.heap.size ≤ Y; omega))) _
          have KN3 : Hid (Blk W2 (H + 1) 24 #[.int .u8 (k : Int), .int .u8 (v : Int), .slice A3 acc.length c3]) := by rw [hW2]; exact KN2.out.far (by show H + 1 ≠ Y; omega) _
          have KI3 : Hid (Blk W2 X 3 #[.int .i64 (i : Int)]) := by rw [hW2]; exact KI2.out.far (by show X ≠ Y; omega) _
          have HO3 : Hid (OwnN W2 (H + 7) A3 acc.length c3 acc) := HOW.out.fr HFr3.out (by omega)
          rw [← hW2]
          clear hW2 HDs KX2 HO1 HFr2 KN2 KI2 x0 y0 hY1
          have hsz2 := HD2.out.size
          obtain ⟨ahead, hah⟩ : ∃ a, (acc.getD (i - 1) ent0).key = a := ⟨_, rfl⟩
          have HAH := Lib.hid hah
          clear hah
          go_cut [67] (fun s67 wx => s67 = .bool (ordB i ahead key s1) ∧ Below W2.heap.size W2 wx)
          case first =>
            have kf := HD2.out.bf.cell 0
            cases s1 with
            | error f =>
              have e1 : stF (.error f) = (f : Int) := rfl
              rw [e1] at kf
              have hf0 : ¬ ((f : Int) < 0) := by omega
              have hd1 : decide ((f : Int) < 0) = false := decide_eq_false hf0
              clear e1
              refine region_gate 19 (fun wx => wx.cell? ⟨H + 3, 0, none⟩ = some (.int .i64 (f : Int))) (by kernel_rfl) ?th1 (fun hHeld => ?tk1)
              case th1 => ((try dsimp only); exact kf)
              refine' takeV 0 (oi := _) (d := _) (v := _) ?ti2 ?td2 (by kernel_rfl) (by kernel_rfl) (by kernel_rfl) (by kernel_rfl) (by decide) (fun _ _ _ _ _ h => h) ?tg2 ?ty2 (by assumption) ?tr2
              case ti2 => (simp only [List.getElem?_toArray, List.getElem?_cons_succ, List.getElem?_cons_zero]; rfl)
              case td2 => exact rfl
              case tg2 => exact rfl
              case ty2 => (intro w hSw; (try dsimp only at hSw); go_split_ands; go_simp; try with_reducible rfl)
              simp only [List.setIfInBounds_toArray, List.set_cons_zero, List.set_cons_succ]
              refine' takeV 1 (oi := _) (d := _) (v := _) ?ti3 ?td3 (by kernel_rfl) (by kernel_rfl) (by kernel_rfl) (by kernel_rfl) (by decide) (fun _ _ _ _ _ h => h) ?tg3 ?ty3 (by assumption) ?tr3
              case ti3 => (simp only [List.getElem?_toArray, List.getElem?_cons_succ, List.getElem?_cons_zero]; rfl)
              case td3 => exact rfl
              case tg3 => exact rfl
              case ty3 => (intro w hSw; (try dsimp only at hSw); go_split_ands; go_simp; try with_reducible rfl)
              simp only [List.setIfInBounds_toArray, List.set_cons_zero, List.set_cons_succ]
              refine' takeV 2 (oi := _) (d := _) (v := _) ?ti4 ?td4 (by kernel_rfl) (by kernel_rfl) (by kernel_rfl) (by kernel_rfl) (by decide) (fun _ _ _ _ _ h => h) ?tg4 ?ty4 (by assumption) ?tr4
              case ti4 => (simp only [List.getElem?_toArray, List.getElem?_cons_succ, List.getElem?_cons_zero]; rfl)
              case td4 => exact rfl
              case tg4 => exact rfl
              case ty4 => (intro w hSw; (try dsimp only at hSw); go_split_ands; go_simp; try with_reducible rfl)
              simp only [List.setIfInBounds_toArray, List.set_cons_zero, List.set_cons_succ]
              refine' takeU 3 (oi := _) (d := _) ?ti5 ?td5 (by kernel_rfl) (by kernel_rfl) (by kernel_rfl) (by decide) (fun _ _ _ _ _ h => h) ?tg5 ?tf5 ?tr5
              case ti5 => (simp only [List.getElem?_toArray, List.getElem?_cons_succ, List.getElem?_cons_zero]; rfl)
              case td5 => exact rfl
              case tg5 => exact rfl
              case tf5 => first | (intro _; assumption) | (intro e; exact absurd e (by decide +kernel))
              simp only [List.setIfInBounds_toArray, List.set_cons_zero, List.set_cons_succ]
              refine' takeU 4 (oi := _) (d := _) ?ti6 ?td6 (by kernel_rfl) (by kernel_rfl) (by kernel_rfl) (by decide) (fun _ _ _ _ _ h => h) ?tg6 ?tf6 ?tr6
              case ti6 => (simp only [List.getElem?_toArray, List.getElem?_cons_succ, List.getElem?_cons_zero]; rfl)
              case td6 => exact rfl
              case tg6 => exact rfl
              case tf6 => first | (intro _; assumption) | (intro e; exact absurd e (by decide +kernel))
              simp only [List.setIfInBounds_toArray, List.set_cons_zero, List.set_cons_succ]
              refine' takeV 5 (oi := _) (d := _) (v := _) ?ti7 ?td7 (by kernel_rfl) (by kernel_rfl) (by kernel_rfl) (by kernel_rfl) (by decide) (fun _ _ _ _ _ h => h) ?tg7 ?ty7 (by assumption) ?tr7
              case ti7 => (simp only [List.getElem?_toArray, List.getElem?_cons_succ, List.getElem?_cons_zero]; rfl)
              case td7 => exact rfl
              case tg7 => exact rfl
              case ty7 => (intro w hSw; (try dsimp only at hSw); go_split_ands; go_simp; try with_reducible rfl)
              simp only [List.setIfInBounds_toArray, List.set_cons_zero, List.set_cons_succ]
              refine' takeV 6 (oi := _) (d := _) (v := _) ?ti8 ?td8 (by kernel_rfl) (by kernel_rfl) (by kernel_rfl) (by kernel_rfl) (by decide) (fun _ _ _ _ _ h => h) ?tg8 ?ty8 (by assumption) ?tr8
              case ti8 => (simp only [List.getElem?_toArray, List.getElem?_cons_succ, List.getElem?_cons_zero]; rfl)
              case td8 => exact rfl
              case tg8 => exact rfl
              case ty8 => (intro w hSw; (try dsimp only at hSw); go_split_ands; go_simp; try with_reducible rfl)
              simp only [List.setIfInBounds_toArray, List.set_cons_zero, List.set_cons_succ]
              refine' takeU 7 (oi := _) (d := _) ?ti9 ?td9 (by kernel_rfl) (by kernel_rfl) (by kernel_rfl) (by decide) (fun _ _ _ _ _ h => h) ?tg9 ?tf9 ?tr9
              case ti9 => (simp only [List.getElem?_toArray, List.getElem?_cons_succ, List.getElem?_cons_zero]; rfl)
              case td9 => exact rfl
              case tg9 => exact rfl
              case tf9 => first | (intro _; assumption) | (intro e; exact absurd e (by decide +kernel))
              simp only [List.setIfInBounds_toArray, List.set_cons_zero, List.set_cons_succ]
              refine' takeU 8 (oi := _) (d := _) ?ti10 ?td10 (by kernel_rfl) (by kernel_rfl) (by kernel_rfl) (by decide) (fun _ _ _ _ _ h => h) ?tg10 ?tf10 ?tr10
              case ti10 => (simp only [List.getElem?_toArray, List.getElem?_cons_succ, List.getElem?_cons_zero]; rfl)
              case td10 => exact rfl
              case tg10 => exact rfl
              case tf10 => first | (intro _; assumption) | (intro e; exact absurd e (by decide +kernel))
              simp only [List.setIfInBounds_toArray, List.set_cons_zero, List.set_cons_succ]
              refine' takeU 9 (oi := _) (d := _) ?ti11 ?td11 (by kernel_rfl) (by kernel_rfl) (by kernel_rfl) (by decide) (fun _ _ _ _ _ h => h) ?tg11 ?tf11 ?tr11
              case ti11 => (simp only [List.getElem?_toArray, List.getElem?_cons_succ, List.getElem?_cons_zero]; rfl)
              case td11 => exact rfl
              case tg11 => exact rfl
              case tf11 => first | (intro _; assumption) | (intro e; exact absurd e (by decide +kernel))
              simp only [List.setIfInBounds_toArray, List.set_cons_zero, List.set_cons_succ]
              refine' takeU 10 (oi := _) (d := _) ?ti12 ?td12 (by kernel_rfl) (by kernel_rfl) (by kernel_rfl) (by decide) (fun _ _ _ _ _ h => h) ?tg12 ?tf12 ?tr12
              case ti12 => (simp only [List.getElem?_toArray, List.getElem?_cons_succ, List.getElem?_cons_zero]; rfl)
              case td12 => exact rfl
              case tg12 => exact rfl
              case tf12 => first | (intro _; assumption) | (intro e; exact absurd e (by decide +kernel))
              simp only [List.setIfInBounds_toArray, List.set_cons_zero, List.set_cons_succ]
              refine' takeU 11 (oi := _) (d := _) ?ti13 ?td13 (by kernel_rfl) (by kernel_rfl) (by kernel_rfl) (by decide) (fun _ _ _ _ _ h => h) ?tg13 ?tf13 ?tr13
              case ti13 => (simp only [List.getElem?_toArray, List.getElem?_cons_succ, List.getElem?_cons_zero]; rfl)
              case td13 => exact rfl
              case tg13 => exact rfl
              case tf13 => first | (intro _; assumption) | (intro e; exact absurd e (by decide +kernel))
              simp only [List.setIfInBounds_toArray, List.set_cons_zero, List.set_cons_succ]
              refine' takeU 12 (oi := _) (d := _) ?ti14 ?td14 (by kernel_rfl) (by kernel_rfl) (by kernel_rfl) (by decide) (fun _ _ _ _ _ h => h) ?tg14 ?tf14 ?tr14
              case ti14 => (simp only [List.getElem?_toArray, List.getElem?_cons_succ, List.getElem?_cons_zero]; rfl)
              case td14 => exact rfl
              case tg14 => exact rfl
              case tf14 => first | (intro _; assumption) | (intro e; exact absurd e (by decide +kernel))
              simp only [List.setIfInBounds_toArray, List.set_cons_zero, List.set_cons_succ]
              refine' takeU 13 (oi := _) (d := _) ?ti15 ?td15 (by kernel_rfl) (by kernel_rfl) (by kernel_rfl) (by decide) (fun _ _ _ _ _ h => h) ?tg15 ?tf15 ?tr15
              case ti15 => (simp only [List.getElem?_toArray, List.getElem?_cons_succ, List.getElem?_cons_zero]; rfl)
              case td15 => exact rfl
              case tg15 => exact rfl
              case tf15 => first | (intro _; assumption) | (intro e; exact absurd e (by decide +kernel))
              simp only [List.setIfInBounds_toArray, List.set_cons_zero, List.set_cons_succ]
              refine' takeU 14 (oi := _) (d := _) ?ti16 ?td16 (by kernel_rfl) (by kernel_rfl) (by kernel_rfl) (by decide) (fun _ _ _ _ _ h => h) ?tg16 ?tf16 ?tr16
              case ti16 => (simp only [List.getElem?_toArray, List.getElem?_cons_succ, List.getElem?_cons_zero]; rfl)
              case td16 => exact rfl
              case tg16 => exact rfl
              case tf16 => first | (intro _; assumption) | (intro e; exact absurd e (by decide +kernel))
              simp only [List.setIfInBounds_toArray, List.set_cons_zero, List.set_cons_succ]
              refine' takeU 15 (oi := _) (d := _) ?ti17 ?td17 (by kernel_rfl) (by kernel_rfl) (by kernel_rfl) (by decide) (fun _ _ _ _ _ h => h) ?tg17 ?tf17 ?tr17
              case ti17 => (simp only [List.getElem?_toArray, List.getElem?_cons_succ, List.getElem?_cons_zero]; rfl)
              case td17 => exact rfl
              case tg17 => exact rfl
              case tf17 => first | (intro _; assumption) | (intro e; exact absurd e (by decide +kernel))
              simp only [List.setIfInBounds_toArray, List.set_cons_zero, List.set_cons_succ]
              refine' takeU 16 (oi := _) (d := _) ?ti18 ?td18 (by kernel_rfl) (by kernel_rfl) (by kernel_rfl) (by decide) (fun _ _ _ _ _ h => h) ?tg18 ?tf18 ?tr18
              case ti18 => (simp only [List.getElem?_toArray, List.getElem?_cons_succ, List.getElem?_cons_zero]; rfl)
              case td18 => exact rfl
              case tg18 => exact rfl
              case tf18 => first | (intro _; assumption) | (intro e; exact absurd e (by decide +kernel))
              simp only [List.setIfInBounds_toArray, List.set_cons_zero, List.set_cons_succ]
              refine' takeU 17 (oi := _) (d := _) ?ti19 ?td19 (by kernel_rfl) (by kernel_rfl) (by kernel_rfl) (by decide) (fun _ _ _ _ _ h => h) ?tg19 ?tf19 ?tr19
              case ti19 => (simp only [List.getElem?_toArray, List.getElem?_cons_succ, List.getElem?_cons_zero]; rfl)
              case td19 => exact rfl
              case tg19 => exact rfl
              case tf19 => first | (intro _; assumption) | (intro e; exact absurd e (by decide +kernel))
              simp only [List.setIfInBounds_toArray, List.set_cons_zero, List.set_cons_succ]
              refine' takeV 18 (oi := _) (d := _) (v := _) ?ti20 ?td20 (by kernel_rfl) (by kernel_rfl) (by kernel_rfl) (by kernel_rfl) (by decide) (fun _ _ _ _ _ h => h) ?tg20 ?ty20 (by assumption) ?tr20
              case ti20 => (simp only [List.getElem?_toArray, List.getElem?_cons_succ, List.getElem?_cons_zero]; rfl)
              case td20 => exact rfl
              case tg20 => exact rfl
              case ty20 => (intro w hSw; (try dsimp only at hSw); go_split_ands; go_simp; try with_reducible rfl)
              simp only [List.setIfInBounds_toArray, List.set_cons_zero, List.set_cons_succ]
              refine doneG (by kernel_rfl) ?_ _
              go_wp2_with fail
              go_meet
              exact ⟨rfl, (Below.refl _ _).drew⟩
            | ok q1 =>
              have e1 : stF (.ok q1) = -1 := rfl
              rw [e1] at kf
              have hd1 : decide ((-1 : Int) < 0) = true := rfl
              have k13 := KI3.out.cell 0
              clear e1
              by_cases hi0 : i = 0
              · have HB : Hid (ordB i ahead key (.ok q1) = false) := by show _ = _; unfold ordB; rw [hi0]; rfl
                have hd2 : decide ((i : Int) > 0) = false := decide_eq_false (by omega)
                have hd3 : decide ((0 : Int) < (i : Int)) = false := decide_eq_false (by omega)
                have hd5 : decide (0 < i) = false := decide_eq_false (by omega)
                clear hi0
                refine region_gate 19 (fun wx => wx.cell? ⟨H + 3, 0, none⟩ = some (.int .i64 (-1)) ∧ wx.cell? ⟨X, 0, none⟩ = some (.int .i64 (i : Int))) (by kernel_rfl) ?th21 (fun hHeld => ?tk21)
                case th21 => ((try dsimp only); exact ⟨kf, k13⟩)
                refine' takeV 0 (oi := _) (d := _) (v := _) ?ti22 ?td22 (by kernel_rfl) (by kernel_rfl) (by kernel_rfl) (by kernel_rfl) (by decide) (fun _ _ _ _ _ h => h) ?tg22 ?ty22 (by assumption) ?tr22
                case ti22 => (simp only [List.getElem?_toArray, List.getElem?_cons_succ, List.getElem?_cons_zero]; rfl)
                case td22 => exact rfl
                case tg22 => exact rfl
                case ty22 => (intro w hSw; (try dsimp only at hSw); go_split_ands; go_simp; try with_reducible rfl)
                simp only [List.setIfInBounds_toArray, List.set_cons_zero, List.set_cons_succ]
                refine' takeV 1 (oi := _) (d := _) (v := _) ?ti23 ?td23 (by kernel_rfl) (by kernel_rfl) (by kernel_rfl) (by kernel_rfl) (by decide) (fun _ _ _ _ _ h => h) ?tg23 ?ty23 (by assumption) ?tr23
                case ti23 => (simp only [List.getElem?_toArray, List.getElem?_cons_succ, List.getElem?_cons_zero]; rfl)
                case td23 => exact rfl
                case tg23 => exact rfl
                case ty23 => (intro w hSw; (try dsimp only at hSw); go_split_ands; go_simp; try with_reducible rfl)
                simp only [List.setIfInBounds_toArray, List.set_cons_zero, List.set_cons_succ]
                refine' takeV 2 (oi := _) (d := _) (v := _) ?ti24 ?td24 (by kernel_rfl) (by kernel_rfl) (by kernel_rfl) (by kernel_rfl) (by decide) (fun _ _ _ _ _ h => h) ?tg24 ?ty24 (by assumption) ?tr24
                case ti24 => (simp only [List.getElem?_toArray, List.getElem?_cons_succ, List.getElem?_cons_zero]; rfl)
                case td24 => exact rfl
                case tg24 => exact rfl
                case ty24 => (intro w hSw; (try dsimp only at hSw); go_split_ands; go_simp; try with_reducible rfl)
                simp only [List.setIfInBounds_toArray, List.set_cons_zero, List.set_cons_succ]
                refine' takeVg 3 (oi := _) (d := _) (v := _) ?ti25 ?td25 (by kernel_rfl) (by kernel_rfl) (by kernel_rfl) (by kernel_rfl) (by decide) (fun _ _ _ _ _ h => h) ?tg25 ?ty25 (by assumption) ?tr25
                case ti25 => (simp only [List.getElem?_toArray, List.getElem?_cons_succ, List.getElem?_cons_zero]; rfl)
                case td25 => exact rfl
                case tg25 => exact rfl
                case ty25 => (intro w hSw; (try dsimp only at hSw); go_split_ands; go_simp; try with_reducible rfl)
                simp only [List.setIfInBounds_toArray, List.set_cons_zero, List.set_cons_succ]
                refine' takeVg 4 (oi := _) (d := _) (v := _) ?ti26 ?td26 (by kernel_rfl) (by kernel_rfl) (by kernel_rfl) (by kernel_rfl) (by decide) (fun _ _ _ _ _ h => h) ?tg26 ?ty26 (by assumption) ?tr26
                case ti26 => (simp only [List.getElem?_toArray, List.getElem?_cons_succ, List.getElem?_cons_zero]; rfl)
                case td26 => exact rfl
                case tg26 => exact rfl
                case ty26 => (intro w hSw; (try dsimp only at hSw); go_split_ands; go_simp; try with_reducible rfl)
                simp only [List.setIfInBounds_toArray, List.set_cons_zero, List.set_cons_succ]
                refine' takeV 5 (oi := _) (d := _) (v := _) ?ti27 ?td27 (by kernel_rfl) (by kernel_rfl) (by kernel_rfl) (by kernel_rfl) (by decide) (fun _ _ _ _ _ h => h) ?tg27 ?ty27 (by assumption) ?tr27
                case ti27 => (simp only [List.getElem?_toArray, List.getElem?_cons_succ, List.getElem?_cons_zero]; rfl)
                case td27 => exact rfl
                case tg27 => exact rfl
                case ty27 => (intro w hSw; (try dsimp only at hSw); go_split_ands; go_simp; try with_reducible rfl)
                simp only [List.setIfInBounds_toArray, List.set_cons_zero, List.set_cons_succ]
                refine' takeV 6 (oi := _) (d := _) (v := _) ?ti28 ?td28 (by kernel_rfl) (by kernel_rfl) (by kernel_rfl) (by kernel_rfl) (by decide) (fun _ _ _ _ _ h => h) ?tg28 ?ty28 (by assumption) ?tr28
                case ti28 => (simp only [List.getElem?_toArray, List.getElem?_cons_succ, List.getElem?_cons_zero]; rfl)
                case td28 => exact rfl
                case tg28 => exact rfl
                case ty28 => (intro w hSw; (try dsimp only at hSw); go_split_ands; go_simp; try with_reducible rfl)
                simp only [List.setIfInBounds_toArray, List.set_cons_zero, List.set_cons_succ]
                refine' takeU 7 (oi := _) (d := _) ?ti29 ?td29 (by kernel_rfl) (by kernel_rfl) (by kernel_rfl) (by decide) (fun _ _ _ _ _ h => h) ?tg29 ?tf29 ?tr29
                case ti29 => (simp only [List.getElem?_toArray, List.getElem?_cons_succ, List.getElem?_cons_zero]; rfl)
                case td29 => exact rfl
                case tg29 => exact rfl
                case tf29 => first | (intro _; assumption) | (intro e; exact absurd e (by decide +kernel))
                simp only [List.setIfInBounds_toArray, List.set_cons_zero, List.set_cons_succ]
                refine' takeU 8 (oi := _) (d := _) ?ti30 ?td30 (by kernel_rfl) (by kernel_rfl) (by kernel_rfl) (by decide) (fun _ _ _ _ _ h => h) ?tg30 ?tf30 ?tr30
                case ti30 => (simp only [List.getElem?_toArray, List.getElem?_cons_succ, List.getElem?_cons_zero]; rfl)
                case td30 => exact rfl
                case tg30 => exact rfl
                case tf30 => first | (intro _; assumption) | (intro e; exact absurd e (by decide +kernel))
                simp only [List.setIfInBounds_toArray, List.set_cons_zero, List.set_cons_succ]
                refine' takeU 9 (oi := _) (d := _) ?ti31 ?td31 (by kernel_rfl) (by kernel_rfl) (by kernel_rfl) (by decide) (fun _ _ _ _ _ h => h) ?tg31 ?tf31 ?tr31
                case ti31 => (simp only [List.getElem?_toArray, List.getElem?_cons_succ, List.getElem?_cons_zero]; rfl)
                case td31 => exact rfl
                case tg31 => exact rfl
                case tf31 => first | (intro _; assumption) | (intro e; exact absurd e (by decide +kernel))
                simp only [List.setIfInBounds_toArray, List.set_cons_zero, List.set_cons_succ]
                refine' takeU 10 (oi := _) (d := _) ?ti32 ?td32 (by kernel_rfl) (by kernel_rfl) (by kernel_rfl) (by decide) (fun _ _ _ _ _ h => h) ?tg32 ?tf32 ?tr32
                case ti32 => (simp only [List.getElem?_toArray, List.getElem?_cons_succ, List.getElem?_cons_zero]; rfl)
                case td32 => exact rfl
                case tg32 => exact rfl
                case tf32 => first | (intro _; assumption) | (intro e; exact absurd e (by decide +kernel))
                simp only [List.setIfInBounds_toArray, List.set_cons_zero, List.set_cons_succ]
                refine' takeU 11 (oi := _) (d := _) ?ti33 ?td33 (by kernel_rfl) (by kernel_rfl) (by kernel_rfl) (by decide) (fun _ _ _ _ _ h => h) ?tg33 ?tf33 ?tr33
                case ti33 => (simp only [List.getElem?_toArray, List.getElem?_cons_succ, List.getElem?_cons_zero]; rfl)
                case td33 => exact rfl
                case tg33 => exact rfl
                case tf33 => first | (intro _; assumption) | (intro e; exact absurd e (by decide +kernel))
                simp only [List.setIfInBounds_toArray, List.set_cons_zero, List.set_cons_succ]
                refine' takeU 12 (oi := _) (d := _) ?ti34 ?td34 (by kernel_rfl) (by kernel_rfl) (by kernel_rfl) (by decide) (fun _ _ _ _ _ h => h) ?tg34 ?tf34 ?tr34
                case ti34 => (simp only [List.getElem?_toArray, List.getElem?_cons_succ, List.getElem?_cons_zero]; rfl)
                case td34 => exact rfl
                case tg34 => exact rfl
                case tf34 => first | (intro _; assumption) | (intro e; exact absurd e (by decide +kernel))
                simp only [List.setIfInBounds_toArray, List.set_cons_zero, List.set_cons_succ]
                refine' takeU 13 (oi := _) (d := _) ?ti35 ?td35 (by kernel_rfl) (by kernel_rfl) (by kernel_rfl) (by decide) (fun _ _ _ _ _ h => h) ?tg35 ?tf35 ?tr35
                case ti35 => (simp only [List.getElem?_toArray, List.getElem?_cons_succ, List.getElem?_cons_zero]; rfl)
                case td35 => exact rfl
                case tg35 => exact rfl
                case tf35 => first | (intro _; assumption) | (intro e; exact absurd e (by decide +kernel))
                simp only [List.setIfInBounds_toArray, List.set_cons_zero, List.set_cons_succ]
                refine' takeU 14 (oi := _) (d := _) ?ti36 ?td36 (by kernel_rfl) (by kernel_rfl) (by kernel_rfl) (by decide) (fun _ _ _ _ _ h => h) ?tg36 ?tf36 ?tr36
                case ti36 => (simp only [List.getElem?_toArray, List.getElem?_cons_succ, List.getElem?_cons_zero]; rfl)
                case td36 => exact rfl
                case tg36 => exact rfl
                case tf36 => first | (intro _; assumption) | (intro e; exact absurd e (by decide +kernel))
                simp only [List.setIfInBounds_toArray, List.set_cons_zero, List.set_cons_succ]
                refine' takeU 15 (oi := _) (d := _) ?ti37 ?td37 (by kernel_rfl) (by kernel_rfl) (by kernel_rfl) (by decide) (fun _ _ _ _ _ h => h) ?tg37 ?tf37 ?tr37
                case ti37 => (simp only [List.getElem?_toArray, List.getElem?_cons_succ, List.getElem?_cons_zero]; rfl)
                case td37 => exact rfl
                case tg37 => exact rfl
                case tf37 => first | (intro _; assumption) | (intro e; exact absurd e (by decide +kernel))
                simp only [List.setIfInBounds_toArray, List.set_cons_zero, List.set_cons_succ]
                refine' takeU 16 (oi := _) (d := _) ?ti38 ?td38 (by kernel_rfl) (by kernel_rfl) (by kernel_rfl) (by decide) (fun _ _ _ _ _ h => h) ?tg38 ?tf38 ?tr38
                case ti38 => (simp only [List.getElem?_toArray, List.getElem?_cons_succ, List.getElem?_cons_zero]; rfl)
                case td38 => exact rfl
                case tg38 => exact rfl
                case tf38 => first | (intro _; assumption) | (intro e; exact absurd e (by decide +kernel))
                simp only [List.setIfInBounds_toArray, List.set_cons_zero, List.set_cons_succ]
                refine' takeU 17 (oi := _) (d := _) ?ti39 ?td39 (by kernel_rfl) (by kernel_rfl) (by kernel_rfl) (by decide) (fun _ _ _ _ _ h => h) ?tg39 ?tf39 ?tr39
                case ti39 => (simp only [List.getElem?_toArray, List.getElem?_cons_succ, List.getElem?_cons_zero]; rfl)
                case td39 => exact rfl
                case tg39 => exact rfl
                case tf39 => first | (intro _; assumption) | (intro e; exact absurd e (by decide +kernel))
                simp only [List.setIfInBounds_toArray, List.set_cons_zero, List.set_cons_succ]
                refine' takeV 18 (oi := _) (d := _) (v := _) ?ti40 ?td40 (by kernel_rfl) (by kernel_rfl) (by kernel_rfl) (by kernel_rfl) (by decide) (fun _ _ _ _ _ h => h) ?tg40 ?ty40 (by assumption) ?tr40
                case ti40 => (simp only [List.getElem?_toArray, List.getElem?_cons_succ, List.getElem?_cons_zero]; rfl)
                case td40 => exact rfl
                case tg40 => exact rfl
                case ty40 => (intro w hSw; (try dsimp only at hSw); go_split_ands; go_simp; try with_reducible rfl)
                simp only [List.setIfInBounds_toArray, List.set_cons_zero, List.set_cons_succ]
                refine doneG (by kernel_rfl) ?_ _
                go_wp2_with fail
                go_meet
                rw [HB.out]
                exact ⟨rfl, (Below.refl _ _).drew⟩
              · obtain ⟨q, rfl⟩ : ∃ q, i = q + 1 := ⟨i - 1, by omega⟩
                have HRL := HO3.out.rdl rfl
                obtain ⟨b, o, A4, n4, c4, A5, n5, c5, eA, hat, hrk, _⟩ := HRL.ent q (by rw [HLN.out]; omega) _ rfl
                have hq1 : q + 1 - 1 = q := by omega
                rw [hq1] at HAH
                rw [HAH.out] at hrk
                have x4 := hat.c0
                have hbl := hat.lt
                have HRK := Lib.hid hrk
                have HRY := Lib.hid HOk.out.rd
                obtain ⟨bl, hbl2⟩ : ∃ bl, less ahead key = bl := ⟨_, rfl⟩
                have hcb := cmp_less ahead key
                rw [hbl2] at hcb
                have HB : Hid (ordB (q + 1) ahead key (.ok q1) = !bl) := by show _ = _; unfold ordB; rw [hbl2, decide_eq_true (by omega)]; rfl
                have hd2 : decide (((q + 1 : Nat) : Int) > 0) = true := decide_eq_true (by omega)
                have hd3 : decide ((0 : Int) < (q : Int) + 1) = true := decide_eq_true (by omega)
                have hd4 : decide ((q : Int) + 1 > 0) = true := decide_eq_true (by omega)
                have hw1 : IntKind.i64.wrap ((q : Int)) = (q : Int) := IntWalk.i64_in _ (by omega)
                have hw2 : IntKind.i64.wrap ((q : Int) + 1 - 1) = (q : Int) := by rw [show (q : Int) + 1 - 1 = (q : Int) by omega]; exact hw1
                have j1 : (0 : Int) ≤ (q : Int) := by omega
                have hLn := HLN.out
                obtain ⟨nn, hnn⟩ : ∃ nn, acc.length = nn := ⟨_, rfl⟩
                have j2 : (q : Int) < (nn : Int) := by omega
                have kn2 := KN3.out.cell 2
                have kx0 := KX3.out.cell 0
                rw [hnn, eA] at kn2
                clear hat hrk hbl2 HRL hi0 hLn hnn
                refine region_gate 19 (fun wx => wx.cell? ⟨H + 3, 0, none⟩ = some (.int .i64 (-1)) ∧ wx.cell? ⟨X, 0, none⟩ = some (.int .i64 ((q + 1 : Nat) : Int)) ∧ wx.cell? ⟨H + 1, 2, none⟩ = some (.slice (some ⟨b, o, none⟩) nn c3) ∧ wx.cell? ⟨b, o + q * 9, none⟩ = some (.slice A4 n4 c4) ∧ wx.cell? ⟨Y, 0, none⟩ = some (.slice A1 n1 c1) ∧ Rd wx A4 n4 c4 ahead ∧ Rd wx A1 n1 c1 key) (by kernel_rfl) ?th41 (fun hHeld => ?tk41)
                case th41 => ((try dsimp only); exact ⟨kf, k13, kn2, x4, kx0, HRK.out.below (below_drewN (Below.refl _ _) 1), HRY.out.below (below_drewN (Below.refl _ _) 1)⟩)
                refine' takeV 0 (oi := _) (d := _) (v := _) ?ti42 ?td42 (by kernel_rfl) (by kernel_rfl) (by kernel_rfl) (by kernel_rfl) (by decide) (fun _ _ _ _ _ h => h) ?tg42 ?ty42 (by assumption) ?tr42
                case ti42 => (simp only [List.getElem?_toArray, List.getElem?_cons_succ, List.getElem?_cons_zero]; rfl)
                case td42 => exact rfl
                case tg42 => exact rfl
                case ty42 => (intro w hSw; (try dsimp only at hSw); go_split_ands; go_simp; try with_reducible rfl)
                simp only [List.setIfInBounds_toArray, List.set_cons_zero, List.set_cons_succ]
                refine' takeV 1 (oi := _) (d := _) (v := _) ?ti43 ?td43 (by kernel_rfl) (by kernel_rfl) (by kernel_rfl) (by kernel_rfl) (by decide) (fun _ _ _ _ _ h => h) ?tg43 ?ty43 (by assumption) ?tr43
                case ti43 => (simp only [List.getElem?_toArray, List.getElem?_cons_succ, List.getElem?_cons_zero]; rfl)
                case td43 => exact rfl
                case tg43 => exact rfl
                case ty43 => (intro w hSw; (try dsimp only at hSw); go_split_ands; go_simp; try with_reducible rfl)
                simp only [List.setIfInBounds_toArray, List.set_cons_zero, List.set_cons_succ]
                refine' takeV 2 (oi := _) (d := _) (v := _) ?ti44 ?td44 (by kernel_rfl) (by kernel_rfl) (by kernel_rfl) (by kernel_rfl) (by decide) (fun _ _ _ _ _ h => h) ?tg44 ?ty44 (by assumption) ?tr44
                case ti44 => (simp only [List.getElem?_toArray, List.getElem?_cons_succ, List.getElem?_cons_zero]; rfl)
                case td44 => exact rfl
                case tg44 => exact rfl
                case ty44 => (intro w hSw; (try dsimp only at hSw); go_split_ands; go_simp; try with_reducible rfl)
                simp only [List.setIfInBounds_toArray, List.set_cons_zero, List.set_cons_succ]
                refine' takeVg 3 (oi := _) (d := _) (v := _) ?ti45 ?td45 (by kernel_rfl) (by kernel_rfl) (by kernel_rfl) (by kernel_rfl) (by decide) (fun _ _ _ _ _ h => h) ?tg45 ?ty45 (by assumption) ?tr45
                case ti45 => (simp only [List.getElem?_toArray, List.getElem?_cons_succ, List.getElem?_cons_zero]; rfl)
                case td45 => exact rfl
                case tg45 => exact rfl
                case ty45 => (intro w hSw; (try dsimp only at hSw); go_split_ands; go_simp; try with_reducible rfl)
                simp only [List.setIfInBounds_toArray, List.set_cons_zero, List.set_cons_succ]
                refine' takeVg 4 (oi := _) (d := _) (v := _) ?ti46 ?td46 (by kernel_rfl) (by kernel_rfl) (by kernel_rfl) (by kernel_rfl) (by decide) (fun _ _ _ _ _ h => h) ?tg46 ?ty46 (by assumption) ?tr46
                case ti46 => (simp only [List.getElem?_toArray, List.getElem?_cons_succ, List.getElem?_cons_zero]; rfl)
                case td46 => exact rfl
                case tg46 => exact rfl
                case ty46 => (intro w hSw; (try dsimp only at hSw); go_split_ands; go_simp; try with_reducible rfl)
                simp only [List.setIfInBounds_toArray, List.set_cons_zero, List.set_cons_succ]
                refine' takeV 5 (oi := _) (d := _) (v := _) ?ti47 ?td47 (by kernel_rfl) (by kernel_rfl) (by kernel_rfl) (by kernel_rfl) (by decide) (fun _ _ _ _ _ h => h) ?tg47 ?ty47 (by assumption) ?tr47
                case ti47 => (simp only [List.getElem?_toArray, List.getElem?_cons_succ, List.getElem?_cons_zero]; rfl)
                case td47 => exact rfl
                case tg47 => exact rfl
                case ty47 => (intro w hSw; (try dsimp only at hSw); go_split_ands; go_simp; try with_reducible rfl)
                simp only [List.setIfInBounds_toArray, List.set_cons_zero, List.set_cons_succ]
                refine' takeV 6 (oi := _) (d := _) (v := _) ?ti48 ?td48 (by kernel_rfl) (by kernel_rfl) (by kernel_rfl) (by kernel_rfl) (by decide) (fun _ _ _ _ _ h => h) ?tg48 ?ty48 (by assumption) ?tr48
                case ti48 => (simp only [List.getElem?_toArray, List.getElem?_cons_succ, List.getElem?_cons_zero]; rfl)
                case td48 => exact rfl
                case tg48 => exact rfl
                case ty48 => (intro w hSw; (try dsimp only at hSw); go_split_ands; go_simp; try with_reducible rfl)
                simp only [List.setIfInBounds_toArray, List.set_cons_zero, List.set_cons_succ]
                refine' takeVg 7 (oi := _) (d := _) (v := _) ?ti49 ?td49 (by kernel_rfl) (by kernel_rfl) (by kernel_rfl) (by kernel_rfl) (by decide) (fun _ _ _ _ _ h => h) ?tg49 ?ty49 (by assumption) ?tr49
                case ti49 => (simp only [List.getElem?_toArray, List.getElem?_cons_succ, List.getElem?_cons_zero]; rfl)
                case td49 => exact rfl
                case tg49 => exact rfl
                case ty49 => (intro w hSw; (try dsimp only at hSw); go_split_ands; go_simp; try with_reducible rfl)
                simp only [List.setIfInBounds_toArray, List.set_cons_zero, List.set_cons_succ]
                refine' takeVg 8 (oi := _) (d := _) (v := _) ?ti50 ?td50 (by kernel_rfl) (by kernel_rfl) (by kernel_rfl) (by kernel_rfl) (by decide) (fun _ _ _ _ _ h => h) ?tg50 ?ty50 (by assumption) ?tr50
                case ti50 => (simp only [List.getElem?_toArray, List.getElem?_cons_succ, List.getElem?_cons_zero]; rfl)
                case td50 => exact rfl
                case tg50 => exact rfl
                case ty50 => (intro w hSw; (try dsimp only at hSw); go_split_ands; go_simp; try with_reducible rfl)
                simp only [List.setIfInBounds_toArray, List.set_cons_zero, List.set_cons_succ]
                refine' takeVg 9 (oi := _) (d := _) (v := _) ?ti51 ?td51 (by kernel_rfl) (by kernel_rfl) (by kernel_rfl) (by kernel_rfl) (by decide) (fun _ _ _ _ _ h => h) ?tg51 ?ty51 (by assumption) ?tr51
                case ti51 => (simp only [List.getElem?_toArray, List.getElem?_cons_succ, List.getElem?_cons_zero]; rfl)
                case td51 => exact rfl
                case tg51 => exact rfl
                case ty51 => (intro w hSw; (try dsimp only at hSw); go_split_ands; go_simp; try with_reducible rfl)
                simp only [List.setIfInBounds_toArray, List.set_cons_zero, List.set_cons_succ]
                refine' takeVg 10 (oi := _) (d := _) (v := _) ?ti52 ?td52 (by kernel_rfl) (by kernel_rfl) (by kernel_rfl) (by kernel_rfl) (by decide) (fun _ _ _ _ _ h => h) ?tg52 ?ty52 (by assumption) ?tr52
                case ti52 => (simp only [List.getElem?_toArray, List.getElem?_cons_succ, List.getElem?_cons_zero]; rfl)
                case td52 => exact rfl
                case tg52 => exact rfl
                case ty52 => (intro w hSw; (try dsimp only at hSw); go_split_ands; go_simp; try with_reducible rfl)
                simp only [List.setIfInBounds_toArray, List.set_cons_zero, List.set_cons_succ]
                refine' takeVg 11 (oi := _) (d := _) (v := _) ?ti53 ?td53 (by kernel_rfl) (by kernel_rfl) (by kernel_rfl) (by kernel_rfl) (by decide) (fun _ _ _ _ _ h => h) ?tg53 ?ty53 (by assumption) ?tr53
                case ti53 => (simp only [List.getElem?_toArray, List.getElem?_cons_succ, List.getElem?_cons_zero]; rfl)
                case td53 => exact rfl
                case tg53 => exact rfl
                case ty53 => (intro w hSw; (try dsimp only at hSw); go_split_ands; go_simp; try with_reducible rfl)
                simp only [List.setIfInBounds_toArray, List.set_cons_zero, List.set_cons_succ]
                refine' takeVg 12 (oi := _) (d := _) (v := _) ?ti54 ?td54 (by kernel_rfl) (by kernel_rfl) (by kernel_rfl) (by kernel_rfl) (by decide) (fun _ _ _ _ _ h => h) ?tg54 ?ty54 (by assumption) ?tr54
                case ti54 => (simp only [List.getElem?_toArray, List.getElem?_cons_succ, List.getElem?_cons_zero]; rfl)
                case td54 => exact rfl
                case tg54 => exact rfl
                case ty54 => (intro w hSw; (try dsimp only at hSw); go_split_ands; go_simp; try with_reducible rfl)
                simp only [List.setIfInBounds_toArray, List.set_cons_zero, List.set_cons_succ]
                refine' takeVg 13 (oi := _) (d := _) (v := _) ?ti55 ?td55 (by kernel_rfl) (by kernel_rfl) (by kernel_rfl) (by kernel_rfl) (by decide) (fun _ _ _ _ _ h => h) ?tg55 ?ty55 (by assumption) ?tr55
                case ti55 => (simp only [List.getElem?_toArray, List.getElem?_cons_succ, List.getElem?_cons_zero]; rfl)
                case td55 => exact rfl
                case tg55 => exact rfl
                case ty55 => (intro w hSw; (try dsimp only at hSw); go_split_ands; go_simp; try with_reducible rfl)
                simp only [List.setIfInBounds_toArray, List.set_cons_zero, List.set_cons_succ]
                refine' takeVg 14 (oi := _) (d := _) (v := _) ?ti56 ?td56 (by kernel_rfl) (by kernel_rfl) (by kernel_rfl) (by kernel_rfl) (by decide) (fun _ _ _ _ _ h => h) ?tg56 ?ty56 (by assumption) ?tr56
                case ti56 => (simp only [List.getElem?_toArray, List.getElem?_cons_succ, List.getElem?_cons_zero]; rfl)
                case td56 => exact rfl
                case tg56 => exact rfl
                case ty56 => (intro w hSw; (try dsimp only at hSw); go_split_ands; go_simp; try with_reducible rfl)
                simp only [List.setIfInBounds_toArray, List.set_cons_zero, List.set_cons_succ]
                refine' takeVg 15 (oi := _) (d := _) (v := _) ?ti57 ?td57 (by kernel_rfl) (by kernel_rfl) (by kernel_rfl) (by kernel_rfl) (by decide) (fun _ _ _ _ _ h => h) ?tg57 ?ty57 (by assumption) ?tr57
                case ti57 => (simp only [List.getElem?_toArray, List.getElem?_cons_succ, List.getElem?_cons_zero]; rfl)
                case td57 => exact rfl
                case tg57 => exact rfl
                case ty57 => (intro w hSw; (try dsimp only at hSw); go_split_ands; go_simp; try with_reducible rfl)
                simp only [List.setIfInBounds_toArray, List.set_cons_zero, List.set_cons_succ]
                refine' takeCg 16 (oi := _) (d := _) (v := _) ?ti58 ?td58 (by kernel_rfl) (by kernel_rfl) (by kernel_rfl) (by kernel_rfl) (by decide) (fun _ _ _ _ _ h => h) ?tg58 ?ty58 (by assumption) ?tr58
                case ti58 => (simp only [List.getElem?_toArray, List.getElem?_cons_succ, List.getElem?_cons_zero]; rfl)
                case td58 => exact rfl
                case tg58 => exact rfl
                case ty58 => (intro w hSw; have hc := compare_any _ _ _ ahead _ _ _ key w hSw.2.2.2.2.2.1 hSw.2.2.2.2.2.2; exact OnlyV.call rfl Try.func29 (by kernel_rfl) (by kernel_rfl) (Calls.mono hc (by rintro e w2 ⟨rfl, rfl⟩; constructor <;> rfl)) (by simp only [List.map_toArray, List.map_cons, List.map_nil]; rfl))
                simp only [List.setIfInBounds_toArray, List.set_cons_zero, List.set_cons_succ]
                refine' takeVg 17 (oi := _) (d := _) (v := _) ?ti59 ?td59 (by kernel_rfl) (by kernel_rfl) (by kernel_rfl) (by kernel_rfl) (by decide) (fun _ _ _ _ _ h => h) ?tg59 ?ty59 (by assumption) ?tr59
                case ti59 => (simp only [List.getElem?_toArray, List.getElem?_cons_succ, List.getElem?_cons_zero]; rfl)
                case td59 => exact rfl
                case tg59 => exact rfl
                case ty59 => (intro w hSw; (try dsimp only at hSw); go_split_ands; go_simp; try with_reducible rfl)
                simp only [List.setIfInBounds_toArray, List.set_cons_zero, List.set_cons_succ]
                refine' takeV 18 (oi := _) (d := _) (v := _) ?ti60 ?td60 (by kernel_rfl) (by kernel_rfl) (by kernel_rfl) (by kernel_rfl) (by decide) (fun _ _ _ _ _ h => h) ?tg60 ?ty60 (by assumption) ?tr60
                case ti60 => (simp only [List.getElem?_toArray, List.getElem?_cons_succ, List.getElem?_cons_zero]; rfl)
                case td60 => exact rfl
                case tg60 => exact rfl
                case ty60 => (intro w hSw; (try dsimp only at hSw); go_split_ands; go_simp; try with_reducible rfl)
                simp only [List.setIfInBounds_toArray, List.set_cons_zero, List.set_cons_succ]
                refine doneG (by kernel_rfl) ?_ _
                go_wp2_with fail
                go_meet
                rw [HB.out]
                exact ⟨by rw [← hcb], (Below.refl _ _).drew⟩
          case rest =>
            obtain ⟨rfl, hbc⟩ := hcut
            have hbc0 := hbc
            have HDt := Lib.hid (HD2.out.fr hbc)
            have KX4 := Lib.hid (KX3.out.below hbc KX3.out.lt)
            have HOk2 := Lib.hid (HOk.out.below hbc)
            have HFr4 := Lib.hid (HFr3.out.trans (Fr.of hbc))
            have KN4 := Lib.hid (KN3.out.below hbc KN3.out.lt)
            have KI4 := Lib.hid (KI3.out.below hbc KI3.out.lt)
            clear hbc hbc0 HD2 KX3 HOk HFr3 KN3 KI3 HO3 hsz2 W2
            obtain ⟨W2, hW2⟩ : ∃ W2, W2 = wc := ⟨_, rfl⟩
            rw [← hW2] at HDt KX4 HOk2 HFr4 KN4 KI4 ⊢
            clear hW2 wc
            have hYs := KX4.out.lt
            go_upto_if 67 with fail
            go_cut [68] (fun s68 wx => (∃ p', DS wx H A c l (ordR i ahead key s1) p') ∧ Fr H W2 wx)
            case first =>
              cases hob : ordB i ahead key s1 with
              | true =>
                obtain ⟨q1, rfl, hor⟩ := ordR_yes hob
                obtain rfl : p1 = q1 := HDt.out.at_ _ rfl
                have hkl1 := HKL.out p1 rfl
                have hnk := HOk2.out.rd.len
                have kp := HDt.out.bp.cell 0
                have kw := HDt.out.bw.cell 0
                have kx := KX4.out.cell 0
                have hpl := HDt.out.pl
                have hsub : (p1 : Int) - (n1 : Int) = ((p1 - n1 : Nat) : Int) := by omega
                have HC := Lib.hid (wrong_any H A c l p1 (p1 - n1) W2 HDt.out (by omega))
                rw [← hsub] at HC
                have hwr : IntKind.i64.wrap ((p1 : Int) - (n1 : Int)) = (p1 : Int) - (n1 : Int) := IntWalk.i64_in _ (by omega)
                have HP : Hid (ordR i ahead key (.ok p1) = .error (p1 - n1)) := by rw [hnk]; exact hor
                clear hob hor hkl1 hnk hsub
                go_wp2_with fail
                refine HC.out.mono ?_
                rintro e w3 ⟨rfl, hd3, hf3⟩
                have HD3 := Lib.hid hd3
                have HF3 := Lib.hid hf3
                clear hd3 hf3
                go_wp2_with fail
                go_meet
                rw [HP.out]
                exact ⟨⟨p1, HD3.out⟩, HF3.out⟩
              | false =>
                have HP := Lib.hid (ordR_no hob)
                clear hob
                go_wp2_with fail
                go_meet
                rw [HP.out]
                exact ⟨⟨p1, HDt.out⟩, Fr.refl _ _⟩
            case rest =>
              obtain ⟨⟨p4, hd4⟩, hf4⟩ := hcut
              have HDu := Lib.hid hd4
              have KX5 := Lib.hid (KX4.out.fr hf4 (by omega) (by omega))
              have HOk3 := Lib.hid (HOk2.out.fr hf4 (by omega))
              have HFr5 := Lib.hid (HFr4.out.trans hf4)
              have KN5 := Lib.hid (KN4.out.fr hf4 (by omega) (by omega))
              have KI5 := Lib.hid (KI4.out.fr hf4 (by omega) (by omega))
              clear hd4 hf4 HDt KX4 HOk2 HFr4 KN4 KI4 hYs W2
              obtain ⟨W2, hW2⟩ : ∃ W2, W2 = wc := ⟨_, rfl⟩
              rw [← hW2] at HDu KX5 HOk3 HFr5 KN5 KI5 ⊢
              clear hW2 wc
              obtain ⟨s2, hs2⟩ : ∃ s2, ordR i ahead key s1 = s2 := ⟨_, rfl⟩
              rw [hs2] at HDu
              have HS2 := Lib.hid hs2
              clear hs2
              have hs7u := HDu.out.size
              have kk := KN5.out.cell 0
              have hEN : Hid (enR l k i ahead (.ok p) = restR l k key s2) := by
                show _ = _
                unfold enR
                rw [HK1.out.1, HK1.out.2, HS2.out]
              go_upto_if 77 with fail
              go_cut [79] (fun s79 wx => ∃ B1 m1 d1 B2 m2 d2, Blk wx Y 49 (enC B1 m1 d1 B2 m2 d2 (restR l k key s2).1.len (restR l k key s2).1.chain (restR l k key s2).1.child).toArray ∧ Own wx (Y + 1) B1 m1 d1 (restR l k key s2).1.key ∧ Own wx (Y + 1) B2 m2 d2 (restR l k key s2).1.val ∧ (∃ p', DS wx H A c l (restR l k key s2).2 p') ∧ Fr H wr wx)
              case first =>
                by_cases hk2 : k = 2
                · have hkb : ((k : Int) == 2) = true := by rw [beq_iff_eq]; omega
                  have HR : Hid (restR l k key s2 = (⟨key, [], 0, r0, (pnR l s2).1⟩, (pnR l s2).2)) := by show _ = _; unfold restR; rw [if_pos hk2]
                  have HC := Lib.hid (pin_any H A c l s2 p4 W2 HDu.out)
                  clear hk2
                  go_wp2_with fail
                  refine HC.out.mono ?_
                  rintro e w3 ⟨rfl, ⟨p5, hd5⟩, hf5⟩
                  have KX6 := KX5.out.fr hf5 (by omega) (by omega)
                  have HD5 := Lib.hid hd5
                  have HF5 := Lib.hid (HFr5.out.trans hf5)
                  have HO5 := Lib.hid (HOk3.out.fr hf5 (by omega))
                  have z6 := KX6.cell 6
                  have z7 := KX6.cell 7
                  have z8 := KX6.cell 8
                  have f6 := KX6.frozen 6
                  have f7 := KX6.frozen 7
                  have f8 := KX6.frozen 8
                  clear hd5 hf5 HC
                  go_wp2_with fail
                  go_meet
                  rw [HR.out]
                  exact ⟨A1, n1, c1, none, 0, 0, KX6.setChild _, HO5.out.low3 (by omega) _ _ _ _ _ _, Own.nil _ _, ⟨p5, HD5.out.far3 (by omega) _ _ _ _ _ _⟩, HF5.out.set3 (by omega) _ _ _ _ _ _⟩
                · have hkb : ((k : Int) == 2) = false := by rw [beq_eq_false_iff_ne]; omega
                  have HC := Lib.hid (take_any 51 #[] (fun v => decide (v < 2)) 1 H A c l s2 p4 W2 HDu.out en_10 (fun _ _ => may_form _) (by omega) (by omega))
                  have kt : W2.cell? ⟨H + 5, 0, none⟩ = some (fnV 39 #[ptr (H + 3), ptr (H + 2), ptr (H + 4), ptr H]) := HDu.out.bt.cell 0
                  obtain ⟨f, hf⟩ : ∃ f, (tkR l 1 (fun v => decide (v < 2)) s2).1 = f := ⟨_, rfl⟩
                  obtain ⟨s3, hs3⟩ : ∃ s, (tkR l 1 (fun v => decide (v < 2)) s2).2 = s := ⟨_, rfl⟩
                  rw [hf] at HC
                  rw [hs3] at HC
                  by_cases hf1 : f = 1
                  · have hfb : ((f : Int) == 1) = true := by rw [beq_iff_eq]; omega
                    obtain ⟨x2, hx2⟩ : ∃ f, (tkR l 2 (fun v => decide (64 < v) && decide (v ≤ 1024)) s3).1 = f := ⟨_, rfl⟩
                    obtain ⟨s4, hs4⟩ : ∃ s, (tkR l 2 (fun v => decide (64 < v) && decide (v ≤ 1024)) s3).2 = s := ⟨_, rfl⟩
                    have hl2 := tkR_le (b := l) (size := 2) (may := fun v => decide (64 < v) && decide (v ≤ 1024)) (s := s3) (by omega)
                    rw [hx2] at hl2
                    have HR : Hid (restR l k key s2 = (⟨key, [], (x2 : Int), (pnR l s4).1, r0⟩, (pnR l s4).2)) := by show _ = _; unfold restR; rw [if_neg hk2, hf, if_pos hf1, hs3, hx2, hs4]
                    have HX2 : Hid ((tkR l 2 (fun v => decide (64 < v) && decide (v ≤ 1024)) s3).1 = x2 ∧ (tkR l 2 (fun v => decide (64 < v) && decide (v ≤ 1024)) s3).2 = s4) := ⟨hx2, hs4⟩
                    have hwx : IntKind.i64.wrap (x2 : Int) = (x2 : Int) := IntWalk.i64_in _ (by omega)
                    clear hk2 hf hs3 hf1 hx2 hs4
                    go_wp2_with fail
                    refine HC.out.mono ?_
                    rintro e w3 ⟨p5, rfl, hd5, hf5⟩
                    have KX6 := Lib.hid (KX5.out.fr hf5 (by omega) (by omega))
                    have HD5 := Lib.hid hd5
                    have HF5 := Lib.hid (HFr5.out.trans hf5)
                    have HO5 := Lib.hid (HOk3.out.fr hf5 (by omega))
                    have kt2 : w3.cell? ⟨H + 5, 0, none⟩ = some (fnV 39 #[ptr (H + 3), ptr (H + 2), ptr (H + 4), ptr H]) := hd5.bt.cell 0
                    have HC2 := Lib.hid (take_any 52 #[] (fun v => decide (64 < v) && decide (v ≤ 1024)) 2 H A c l s3 p5 w3 hd5 en_11 (fun _ _ => may_len _) (by omega) (by omega))
                    rw [HX2.out.1] at HC2
                    rw [HX2.out.2] at HC2
                    clear hd5 hf5 HC kt
                    go_wp2_with fail
                    refine HC2.out.mono ?_
                    rintro e w4 ⟨p6, rfl, hd6, hf6⟩
                    have KX7 := KX6.out.fr hf6 (by omega) (by omega)
                    have z2 := KX7.cell 2
                    have f2 := KX7.frozen 2
                    have HD6 := Lib.hid hd6
                    have HF6 := Lib.hid (HF5.out.trans hf6)
                    have HO6 := Lib.hid (HO5.out.fr hf6 (by omega))
                    clear hd6 hf6 HC2 kt2 HD5 HF5 HO5 KX6
                    go_upto_region 23 with fail
                    obtain ⟨w5, hw5⟩ : ∃ w5, w5 = w4.setCell ⟨Y, 2, none⟩ (.int .i64 (x2 : Int)) := ⟨_, rfl⟩
                    have KX8 : Hid (Blk w5 Y 49 (enC A1 n1 c1 none 0 0 (x2 : Int) r0 r0).toArray) := by rw [hw5]; exact KX7.set_ 2 _
                    have HD7 : Hid (DS w5 H A c l s4 p6) := by rw [hw5]; exact HD6.out.far (.inr (by show H + 7 ≤ Y; omega)) _
                    have HF7 : Hid (Fr H wr w5) := by rw [hw5]; exact HF6.out.set_ (.inr (.inr (by show wr.heap.size ≤ Y; omega))) _
                    have HO7 : Hid (Own w5 (Y + 1) A1 n1 c1 key) := by rw [hw5]; exact HO6.out.setLow (p := ⟨Y, 2, none⟩) (by show Y < Y + 1; omega) _
                    rw [← hw5]
                    clear hw5 HD6 HF6 HO6 KX7 z2 f2 hwx
                    have HC3 := Lib.hid (pin_any H A c l s4 p6 w5 HD7.out)
                    go_wp2_with fail
                    refine HC3.out.mono ?_
                    rintro e w6 ⟨rfl, ⟨p7, hd8⟩, hf8⟩
                    have KX9 := KX8.out.fr hf8 (by omega) (by omega)
                    have HD8 := Lib.hid hd8
                    have HF8 := Lib.hid (HF7.out.trans hf8)
                    have HO8 := Lib.hid (HO7.out.fr hf8 (by omega))
                    have z6 := KX9.cell 3
                    have z7 := KX9.cell 4
                    have z8 := KX9.cell 5
                    have f6 := KX9.frozen 3
                    have f7 := KX9.frozen 4
                    have f8 := KX9.frozen 5
                    clear hd8 hf8 HC3
                    go_wp2_with fail
                    go_meet
                    rw [HR.out]
                    exact ⟨A1, n1, c1, none, 0, 0, KX9.setChain _, HO8.out.low3 (by omega) _ _ _ _ _ _, Own.nil _ _, ⟨p7, HD8.out.far3 (by omega) _ _ _ _ _ _⟩, HF8.out.set3 (by omega) _ _ _ _ _ _⟩
                  · have hfb : ((f : Int) == 1) = false := by rw [beq_eq_false_iff_ne]; omega
                    have HR : Hid (restR l k key s2 = (⟨key, (txR l (fun v => decide (v ≤ 64)) s3).1, 0, r0, r0⟩, (txR l (fun v => decide (v ≤ 64)) s3).2)) := by show _ = _; unfold restR; rw [if_neg hk2, hf, if_neg hf1, hs3]
                    clear hk2 hf hs3 hf1
                    go_wp2_with fail
                    refine HC.out.mono ?_
                    rintro e w3 ⟨p5, rfl, hd5, hf5⟩
                    have KX6 := Lib.hid (KX5.out.fr hf5 (by omega) (by omega))
                    have HD5 := Lib.hid hd5
                    have HF5 := Lib.hid (HFr5.out.trans hf5)
                    have HO5 := Lib.hid (HOk3.out.fr hf5 (by omega))
                    have HC2 := Lib.hid (text_any 53 #[] (fun v => decide (v ≤ 64)) H A c l s3 p5 w3 hd5 en_12 (fun _ _ => may_short _))
                    clear hd5 hf5 HC kt
                    go_wp2_with fail
                    refine HC2.out.mono ?_
                    rintro e w4 ⟨B2, m2, d2, rfl, ho2, ⟨p6, hd6⟩, hf6⟩
                    have KX7 := KX6.out.fr hf6 (by omega) (by omega)
                    have z1 := KX7.cell 1
                    have f1 := KX7.frozen 1
                    have HD6 := Lib.hid hd6
                    have HF6 := Lib.hid (HF5.out.trans hf6)
                    have HO6 := Lib.hid (HO5.out.fr hf6 (by omega))
                    have HO2 := Lib.hid (ho2.mono (Nat.succ_le_of_lt KX6.out.lt))
                    clear hd6 hf6 HC2 HD5 HF5 HO5 KX6 ho2
                    go_wp2_with fail
                    go_meet
                    rw [HR.out]
                    exact ⟨A1, n1, c1, B2, m2, d2, KX7.set_ 1 _, HO6.out.setLow (p := ⟨Y, 1, none⟩) (by show Y < Y + 1; omega) _, HO2.out.setLow (p := ⟨Y, 1, none⟩) (by show Y < Y + 1; omega) _, ⟨p6, HD6.out.far (.inr (by show H + 7 ≤ Y; omega)) _⟩, HF6.out.set_ (.inr (.inr (by show wr.heap.size ≤ Y; omega))) _⟩
              case rest =>
                obtain ⟨B1, m1, d1, B2, m2, d2, hkx, ho1, ho2, ⟨p9, hd9⟩, hf9⟩ := hcut
                obtain ⟨x, hx⟩ : ∃ x, (restR l k key s2).1 = x := ⟨_, rfl⟩
                obtain ⟨s9, hs9⟩ : ∃ s, (restR l k key s2).2 = s := ⟨_, rfl⟩
                rw [hx] at hkx ho1 ho2
                rw [hs9] at hd9
                have HKX := Lib.hid hkx
                have HO1 := Lib.hid (ho1.mono (H' := H + 7) (by omega))
                have HO2 := Lib.hid (ho2.mono (H' := H + 7) (by omega))
                have HD9 := Lib.hid hd9
                have HF9 := Lib.hid hf9
                have HOW9 := Lib.hid (HOW.out.fr hf9 (by omega))
                have KN9 := Lib.hid (HKN.out.fr hf9 (by omega) (by omega))
                have KI9 := Lib.hid (HKI.out.fr hf9 (by omega) (by omega))
                have HB9 : Hid (Below H w wc) := HBR.out.trans (hf9.below (by omega) (by omega))
                have HEQ : Hid (ensR l k s0 (i + 1) = (acc ++ [x], s9)) := by
                  show _ = _
                  rw [ensR_ok HS.out, HACC.out, HAH.out, hEN.out, hx, hs9]
                have hYX := HKX.out.lt
                rw [HLN.out] at KN9 HOW9
                clear hkx ho1 ho2 hd9 hf9 hx hs9 HOk3 HFr5 KX5 HDu KN5 KI5 HK1 HKL hs7u kk hEN HS2
                obtain ⟨w5, hw5⟩ : ∃ w5, w5 = wc := ⟨_, rfl⟩
                rw [← hw5] at HKX HO1 HO2 HD9 HF9 HOW9 KN9 KI9 HB9 hYX ⊢
                clear hw5 wc
                have hs9 := HD9.out.size
                have n2 := KN9.out.cell 2
                have z2 := KN9.out.frozen 2
                have q0 := HKX.out.cell 0
                have q1 := HKX.out.cell 1
                have q2 := HKX.out.cell 2
                have q3 := HKX.out.cell 3
                have q4 := HKX.out.cell 4
                have q5 := HKX.out.cell 5
                have q6 := HKX.out.cell 6
                have q7 := HKX.out.cell 7
                have q8 := HKX.out.cell 8
                obtain ⟨V, hV⟩ : ∃ V, V = w5.alloc (.cells (enA B1 m1 d1 B2 m2 d2 x.len x.chain x.child) 49) := ⟨_, rfl⟩
                have hbV : Below w5.heap.size w5 V := by rw [hV]; exact below_new1 _ _
                have KE : Hid (Blk V w5.heap.size 49 (enC B1 m1 d1 B2 m2 d2 x.len x.chain x.child).toArray) := by rw [hV]; exact Blk.new _ _ _
                obtain ⟨css, hoe, hall⟩ := HOW9.out
                have HOE := Lib.hid (hoe.below hbV)
                have HALL : Hid (∀ j, j < i → EC V (H + 7) (css.getD j []) (acc.getD j ent0)) := fun j hj => (hall j hj).below hbV
                have HEC : Hid (EC V (H + 7) (enC B1 m1 d1 B2 m2 d2 x.len x.chain x.child) x) := ⟨B1, m1, d1, B2, m2, d2, rfl, HO1.out.below hbV, HO2.out.below hbV⟩
                have KNV := Lib.hid (KN9.out.below hbV KN9.out.lt)
                have KIV := Lib.hid (KI9.out.below hbV KI9.out.lt)
                have HDV := Lib.hid (HD9.out.fr hbV)
                have HBV : Hid (Below H w V) := HB9.out.trans (hbV.mono (by omega))
                have hVs : H + 7 ≤ V.heap.size := HDV.out.size
                rw [hV] at HOE KE HALL HEC KNV KIV HDV HBV hVs
                clear hoe hall hbV hV
                have hi3 : i ≤ 1000000 := by omega
                go_upto_region 26 with (at_builtin; refine wpList_appE 22 Try.underlying22 rfl (.tmp 95) (.tmp 97) rfl rfl rfl HOE.out KE.out rfl (enC_one _ _ _ _ _ _ _ _ _) hVs hi3 ?_; intro A4 c4 w7 hown7 hg7 hb7; have kn7 := HOE.out.keepBlk KNV.out (by decide) hg7; have n7 := kn7.cell 2; have z7 := kn7.frozen 2)
                have hEC2 := HEC.out.mono (Nat.le_refl _)
                have HPU : Hid (OwnN w7 (H + 7) A4 (i + 1) c4 (acc ++ [x])) := by
                  refine OwnN.push HOE.out (fun j hj => ?_) ?_ hown7 hg7
                  · rw [getD_snoc_lt (by rw [HLN.out]; exact hj)]
                    exact HALL.out j hj
                  · have := getD_snoc_eq (l := acc) (x := x)
                    rw [HLN.out] at this
                    rw [this]
                    exact HEC.out
                have KI7 := Lib.hid (HOE.out.keepBlk KIV.out (by decide) hg7)
                have KN7 := Lib.hid kn7
                have HD7 := Lib.hid (HDV.out.below hb7)
                have HB7 : Hid (Below H w w7) := HBV.out.trans (hb7.mono (by omega))
                clear hEC2 hown7 hg7 hb7 kn7 n7 z7 n2 z2 q0 q1 q2 q3 q4 q5 q6 q7 q8 HOE HALL HEC KNV KIV HDV HBV hVs KE
                obtain ⟨w8, hw8⟩ : ∃ w8, w8 = w7.setCell ⟨H + 1, 2, none⟩ (.slice A4 (i + 1) c4) := ⟨_, rfl⟩
                have HG8 : w7.grownBy w8 (some (H + 1)) := by rw [hw8]; exact dec_grown _ _ _ _
                have KN8 : Hid (Blk w8 (H + 1) 24 #[.int .u8 (k : Int), .int .u8 (v : Int), .slice A4 (i + 1) c4]) := by rw [hw8]; exact KN7.out.set_ 2 _
                have KI8 : Hid (Blk w8 X 3 #[.int .i64 (i : Int)]) := by rw [hw8]; exact KI7.out.far (by show X ≠ H + 1; omega) _
                have HD8 : Hid (DS w8 H A c l s9 p9) := by rw [hw8]; exact HD7.out.far (.inl rfl) _
                have HO8 := Lib.hid (HPU.out.keptE KN7.out (by decide) (by decide) HG8)
                have HB8 : Hid (Below H w w8) := by rw [hw8]; exact HB7.out.setCell (p := ⟨H + 1, 2, none⟩) (by show H ≤ H + 1; omega) _
                rw [← hw8]
                clear hw8 HG8 KN7 KI7 HD7 HPU HB7
                have k8 := KI8.out.cell 0
                have hX8' := KI8.out.lt
                have hiw : IntKind.i64.wrap ((i : Int) + 1) = (i : Int) + 1 := IntWalk.i64_in _ (by omega)
                have hs8 := HD8.out.size
                go_wp2_with fail
                go_roundg (gk - 1)
                case measure => have := HIG.out; omega
                case rel =>
                  have hbz : Below w8.heap.size w8 (w8.alloc (.cells #[.int .i64 ((i : Int) + 1)] 3)) := below_new1 _ _
                  have hlen : (ensR l k s0 (i + 1)).1.length = i + 1 := by rw [HEQ.out, List.length_append, HLN.out]; rfl
                  refine ⟨i + 1, w8.heap.size, rfl, by have := HIG.out; omega, ⟨⟨p9, ?_⟩, ⟨A4, c4, ?_, ?_⟩, ?_, hs8, hlen, HB8.out.trans (hbz.mono (by omega))⟩⟩
                  · rw [HEQ.out]; exact HD8.out.fr hbz
                  · rw [hlen]; exact KN8.out.below hbz (by omega)
                  · rw [hlen, HEQ.out]; exact HO8.out.below hbz
                  · exact Blk.new' _ _ _ _ rfl
      · have hnl : ¬ ((i : Int) < (m : Int)) := by omega
        have hwm : IntKind.i64.wrap (m : Int) = (m : Int) := IntWalk.i64_in _ (by omega)
        go_wp2_with fail
        go_meet
        exact HLPr.out.out him (.inl (by omega))
  case rest =>
    clear HLP HDc hs7
    obtain ⟨sE, hsE⟩ : ∃ s, (ensR l k s0 m).2 = s := ⟨_, rfl⟩
    obtain ⟨⟨pE, hde⟩, ⟨A9, n9, c9, kn9, ho9⟩, hbe⟩ := hcut
    rw [hsE] at hde ho9
    have HDe := Lib.hid hde
    have KN9 := Lib.hid kn9
    have HO9 := Lib.hid ho9
    have HBe := Lib.hid hbe
    have HSE := Lib.hid hsE
    have HL := Lib.hid hde.rd.len
    clear hde kn9 ho9 hbe hsE
    obtain ⟨w4, hw4⟩ : ∃ w4, w4 = wc := ⟨_, rfl⟩
    rw [← hw4] at HDe KN9 HO9 HBe ⊢
    clear hw4 wc
    go_upto_block 2 with fail
    go_cut [13] (fun s13 wx => (∃ p, DS wx H A c l (tlR l sE) p) ∧ Fr H w4 wx)
    case first =>
      go_wp2_with fail
      go_loopg [101] 1000 (fun gk z101 wr => ∃ (s : RdSt) (p : Nat), DS wr H A c l s p ∧ tlR l s = tlR l sE ∧ Fr H w4 wr ∧ (match s with | .ok q => 225 - q | .error _ => 0) ≤ gk)
      case atStart => exact ⟨sE, pE, HDe.out, rfl, Fr.refl _ _, by split <;> omega⟩
      case round =>
        obtain ⟨s, p, hd, ht, hf, hg⟩ := hrel
        have HT := Lib.hid ht
        have HF := Lib.hid hf
        have HD := Lib.hid hd
        have kf := hd.bf.cell 0
        have kp := hd.bp.cell 0
        have kt : wr.cell? ⟨H + 5, 0, none⟩ = some (fnV 39 #[ptr (H + 3), ptr (H + 2), ptr (H + 4), ptr H]) := hd.bt.cell 0
        have hpl := hd.pl
        cases s with
        | error f =>
          have e1 : stF (.error f) = (f : Int) := rfl
          rw [e1] at kf
          have hf0 : ¬ ((f : Int) < 0) := by omega
          clear hd ht hf hg e1
          go_wp2_with fail
          go_meet
          exact ⟨⟨p, by rw [← HT.out]; exact HD.out⟩, HF.out⟩
        | ok q =>
          obtain rfl : p = q := hd.at_ _ rfl
          have e1 : stF (.ok p) = -1 := rfl
          rw [e1] at kf
          by_cases hp : p < 224
          · have hp2 : ((p : Int) < 224) := by omega
            have C := Lib.hid (take_any 54 #[] (fun v => v == 0) 1 H A c l (.ok p) p wr hd en_13 (fun _ _ => may_nought _) (by omega) (by omega))
            have HST := Lib.hid (tlR_step HL.out.symm hp)
            have HG := Lib.hid hg
            clear hd ht hf e1 hg
            go_wp2_with fail
            refine C.out.mono ?_
            rintro e w5 ⟨p5, rfl, hd5, hf5⟩
            have HD5 := Lib.hid hd5
            have HF5 := Lib.hid hf5
            clear hd5 hf5
            go_wp2_with fail
            obtain ⟨s5, hs5⟩ : ∃ s5, (tkR l 1 (fun v => v == 0) (.ok p)).2 = s5 := ⟨_, rfl⟩
            rw [hs5] at HD5 HST
            go_roundg (gk - 1)
            case measure => have := HG.out; omega
            case rel =>
              refine ⟨s5, p5, HD5.out, HST.out.trans HT.out, HF.out.trans HF5.out, ?_⟩
              have hg2 := HG.out
              cases s5 with
              | error f =>
                dsimp only
                omega
              | ok q5 =>
                dsimp only
                cases hk : tk l 1 (fun v => v == 0) p with
                | error f => rw [tkR_bad hk] at hs5; cases hs5
                | ok a =>
                  obtain ⟨v5, q5⟩ := a
                  rw [tkR_ok hk] at hs5
                  injection hs5 with hs5
                  obtain ⟨_, h2, _, _⟩ := tk_ok hk
                  omega
          · obtain rfl : p = 224 := by omega
            have hp2 : ¬ (((224 : Nat) : Int) < 224) := by omega
            clear hd ht hf hg e1
            go_wp2_with fail
            go_meet
            exact ⟨⟨224, by rw [← HT.out]; exact HD.out⟩, HF.out⟩
    case rest =>
      obtain ⟨⟨p9, hd9⟩, hf9⟩ := hcut
      obtain ⟨s9, hs9⟩ : ∃ s, tlR l sE = s := ⟨_, rfl⟩
      rw [hs9] at hd9
      have HD9 := Lib.hid hd9
      have HF9 := Lib.hid hf9
      have HS9 := Lib.hid hs9
      have KN10 := Lib.hid (KN9.out.fr hf9 (by omega) (by omega))
      have kf := hd9.bf.cell 0
      have hE : decEnd l = s9 := by
        unfold decEnd enEnd
        rw [HK.out.1, HK.out.2.2.1, HK.out.2.2.2, HSE.out]
        exact hs9
      have HE := Lib.hid hE
      have hs10 := hd9.size
      have HB10 : Hid (Below H w wc) := HBe.out.trans (hf9.below (by omega) (by have := HDe.out.size; omega))
      clear hd9 hf9 hs9 hE
      obtain ⟨w5, hw5⟩ : ∃ w5, w5 = wc := ⟨_, rfl⟩
      rw [← hw5] at HD9 KN10 HF9 kf hs10 HB10 ⊢
      clear hw5 wc
      have hlz : [Value.int .u8 (k : Int), .int .u8 (v : Int), .slice A9 n9 c9].length = 3 := rfl
      have infoN : (Try.prog.info? 24).map (·.size) = some 3 := by kernel_rfl
      cases s9 with
      | error f =>
        have e1 : stF (.error f) = (f : Int) := rfl
        rw [e1] at kf
        have hf0 : ((f : Int) ≥ 0) := by omega
        clear e1
        go_upto_region 31 with fail
        refine region_gate 5 (fun wx => wx.cell? ⟨H + 3, 0, none⟩ = some (.int .i64 (f : Int))) (by kernel_rfl) ?th61 (fun hHeld => ?tk61)
        case th61 => ((try dsimp only); exact kf)
        refine' takeV 0 (oi := _) (d := _) (v := _) ?ti62 ?td62 (by kernel_rfl) (by kernel_rfl) (by kernel_rfl) (by kernel_rfl) (by decide) (fun _ _ _ _ _ h => h) ?tg62 ?ty62 (by assumption) ?tr62
        case ti62 => (simp only [List.getElem?_toArray, List.getElem?_cons_succ, List.getElem?_cons_zero]; rfl)
        case td62 => exact rfl
        case tg62 => exact rfl
        case ty62 => (intro w hSw; (try dsimp only at hSw); go_split_ands; go_simp; try with_reducible rfl)
        simp only [List.setIfInBounds_toArray, List.set_cons_zero, List.set_cons_succ]
        refine' takeV 1 (oi := _) (d := _) (v := _) ?ti63 ?td63 (by kernel_rfl) (by kernel_rfl) (by kernel_rfl) (by kernel_rfl) (by decide) (fun _ _ _ _ _ h => h) ?tg63 ?ty63 (by assumption) ?tr63
        case ti63 => (simp only [List.getElem?_toArray, List.getElem?_cons_succ, List.getElem?_cons_zero]; rfl)
        case td63 => exact rfl
        case tg63 => exact rfl
        case ty63 => (intro w hSw; (try dsimp only at hSw); go_split_ands; go_simp; try with_reducible rfl)
        simp only [List.setIfInBounds_toArray, List.set_cons_zero, List.set_cons_succ]
        obtain ⟨V0, hV0⟩ : ∃ V0, V0 = w5.drew := ⟨_, rfl⟩
        have B0 : Below w5.heap.size w5 V0 := by rw [hV0]; exact (Below.refl _ _).drew
        rw [← hV0]
        clear hV0 hHeld
        have KN11 := Lib.hid (KN10.out.below B0 (by omega))
        have KF11 := Lib.hid (HD9.out.bf.below B0 (by omega))
        refine stepG 2 (by kernel_rfl) (by simp only [List.getElem?_toArray, List.getElem?_cons_succ, List.getElem?_cons_zero]; rfl) (fun K hK => ?_)
        refine step_store_blk rfl 24 (.tmp 2) (.tmp 111) rfl rfl (cs := [.int .u8 0, .int .u8 0, .slice none 0 0]) rfl KN11.out rfl infoN (by intro v hv; simp at hv; rcases hv with rfl | rfl | rfl <;> rfl) ?_
        intro wa hka hga
        refine hK.out _ _ ?ts64 (fun hHeld => ?_)
        case ts64 => ((try dsimp only); exact (KF11.out.keep_grown hga (by simp)).cell 0)
        clear hK K
        refine' takeW 3 (oi := _) (d := _) (v := _) ?ti65 ?td65 (by kernel_rfl) (by kernel_rfl) (by kernel_rfl) (by decide) (fun _ _ _ _ _ h => h) ?tg65 ?ty65 ?tf65 ?tr65
        case ti65 => (simp only [List.getElem?_toArray, List.getElem?_cons_succ, List.getElem?_cons_zero]; rfl)
        case td65 => exact rfl
        case tg65 => exact rfl
        case ty65 => (intro w; go_simp; try with_reducible rfl)
        case tf65 => first | (intro _; assumption) | (intro e; exact absurd e (by decide +kernel))
        simp only [List.setIfInBounds_toArray, List.set_cons_zero, List.set_cons_succ]
        refine' takeW 4 (oi := _) (d := _) (v := _) ?ti66 ?td66 (by kernel_rfl) (by kernel_rfl) (by kernel_rfl) (by decide) (fun _ _ _ _ _ h => h) ?tg66 ?ty66 ?tf66 ?tr66
        case ti66 => (simp only [List.getElem?_toArray, List.getElem?_cons_succ, List.getElem?_cons_zero]; rfl)
        case td66 => exact rfl
        case tg66 => exact rfl
        case ty66 => (intro w; go_simp; try with_reducible rfl)
        case tf66 => first | (intro _; assumption) | (intro e; exact absurd e (by decide +kernel))
        simp only [List.setIfInBounds_toArray, List.set_cons_zero, List.set_cons_succ]
        refine doneG (by kernel_rfl) ?_ _
        go_wp2_with fail
        refine bodyPost_ret (v := .tuple #[NdV 0 0 none 0 0, .int .i64 5, .int .i64 (f : Int)]) ?_ rfl ?_
        · simp [results, Try.results22, go_sem, hka.cell 0, hka.cell 1, hka.cell 2]
        · exact DecP.bad HE.out ((HB10.out.trans (B0.mono (by omega))).grown hga (by have := B0.size; omega) (by intro q hq; simp at hq; omega))
      | ok q =>
        have e1 : stF (.ok q) = -1 := rfl
        rw [e1] at kf
        clear e1
        have hq : sE = .ok q ∨ ∃ q', sE = .ok q' := by
          cases hx : sE with
          | error f => rw [hx] at HS9; cases HS9.out
          | ok q' => exact .inr ⟨q', rfl⟩
        obtain ⟨q', hq'⟩ : ∃ q', sE = .ok q' := by rcases hq with h | h; exact ⟨_, h⟩; exact h
        obtain ⟨hn9, ho10⟩ := HO9.out q' hq'
        have hO : OwnN w5 (H + 7) A9 n9 c9 (ensR l k s0 m).1 := ho10.fr HF9.out (by omega)
        have hEn : enEnd l = ensR l k s0 m := by unfold enEnd; rw [HK.out.1, HK.out.2.2.1, HK.out.2.2.2]
        rw [← hEn] at hn9 hO
        have HO := Lib.hid hO
        have HN9 := Lib.hid hn9
        have m0 := KN10.out.cell 0
        have m1 := KN10.out.cell 1
        have m2 := KN10.out.cell 2
        clear hq hq' hn9 ho10 hO hEn
        have hll : [Value.int .u8 (k : Int), .int .u8 (v : Int), .slice A9 n9 c9].length = [Value.int .u8 (k : Int), .int .u8 (v : Int), .slice A9 n9 c9].length := rfl
        have hii : (Try.prog.info? 24).map (·.size) = some [Value.int .u8 (k : Int), .int .u8 (v : Int), .slice A9 n9 c9].length := infoN
        have hoo : ∀ x ∈ [Value.int .u8 (k : Int), .int .u8 (v : Int), .slice A9 n9 c9], x.oneCell' = true := by intro x hx; simp at hx; rcases hx with rfl | rfl | rfl <;> rfl
        have HII := Lib.hid hii
        have HOO := Lib.hid hoo
        have HLL := Lib.hid hll
        clear hii hoo hll hlz infoN
        go_wp2_with (with_reducible refine wpList_store_blk rfl 24 (.tmp 2) (.tmp 113) rfl rfl (cs := [Value.int .u8 (k : Int), .int .u8 (v : Int), .slice A9 n9 c9]) rfl KN10.out HLL.out HII.out HOO.out ?_; intro wa hka hga)
        refine bodyPost_ret (v := .tuple #[NdV k v A9 n9 c9, .int .i64 0, .int .i64 0]) ?_ rfl ?_
        · simp [results, Try.results22, go_sem, hka.cell 0, hka.cell 1, hka.cell 2]
        · exact DecP.good HE.out HK.out.1 HK.out.2.1 HN9.out ((HO.out.keptE KN10.out (by decide) (by decide) hga).mono (by omega)) (HB10.out.grown hga (by omega) (by intro q hq; simp at hq; omega))
end Go.Proofs.Ytihbpmceggghgaa

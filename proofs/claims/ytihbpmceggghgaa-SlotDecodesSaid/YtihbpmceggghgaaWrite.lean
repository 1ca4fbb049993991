/- Contracts: a node's bytes, as slot writes them. -/
import Derived.Test.YtihbpmceggghgaaEntB
set_option linter.unusedVariables false
set_option linter.unusedSimpArgs false
namespace Go.Proofs.Ytihbpmceggghgaa
open Go.RowKit

abbrev enA (A : Option Addr) (n c : Nat) (A' : Option Addr) (n' c' : Nat) (L : Int) (r s : Rf) : Array Value :=
  #[.slice A n c, .slice A' n' c', .int .i64 L, .int .u32 (r.1 : Int), .int .u64 (r.2.1 : Int), .int .u16 (r.2.2 : Int), .int .u32 (s.1 : Int), .int .u64 (s.2.1 : Int), .int .u16 (s.2.2 : Int)]
abbrev ndA (k l : Nat) (A : Option Addr) (n c : Nat) : Array Value := #[.int .u8 (k : Int), .int .u8 (l : Int), .slice A n c]
/-- A row of bytes of the call's own grows: a block of another type stays. -/
theorem Own.ne_blk {w : World} {H g n c X : Nat} {l : List UInt8} {T : TypeId} {cs : Array Value} (h : Own w H (some ⟨g, 0, none⟩) n c l) (hX : Blk w X T cs) (hT : T ≠ 5) : g ≠ X := by
  intro e
  subst e
  rcases h.2 with ⟨hv, _⟩ | ⟨g1, cap, cur, hv, _, hg, _⟩
  · cases hv
  · injection hv with h1 _ _
    injection h1 with h1
    injection h1 with h1
    subst h1
    have hX' : w.heap[g]? = some (.cells cs T (0, 0)) := hX
    rw [hg] at hX'
    injection hX' with hX'
    injection hX' with _ ht
    exact hT ht.symm
theorem Own.keep_blk {w w' : World} {H n c X : Nat} {A : Option Addr} {l : List UInt8} {T : TypeId} {cs : Array Value} (h : Own w H A n c l) (hX : Blk w X T cs) (hT : T ≠ 5) (hg : w.grownBy w' (A.map (·.block))) : Blk w' X T cs := by
  refine hX.keep_grown hg fun e => ?_
  cases A with
  | none => cases e
  | some a =>
    simp only [Option.map_some, Option.some.injEq] at e
    rcases h.2 with ⟨hv, _⟩ | ⟨g, cap, cur, hv, _⟩
    · cases hv
    · injection hv with h1 _ _
      injection h1 with h1
      subst h1
      exact h.ne_blk hX hT e.symm
theorem entsB_mono (k : Nat) (es : List Ent) (i : Nat) (h : i < es.length) : (entsB k (es.take i)).length + (entB k (es.getD i ent0)).length ≤ (entsB k es).length := by
  have e : entsB k es = entsB k (es.take (i + 1)) ++ entsB k (es.drop (i + 1)) := by
    unfold entsB
    rw [← List.flatten_append, ← List.map_append, List.take_append_drop]
  rw [e, entsB_step k es i h, List.length_append, List.length_append]
  omega
theorem bytes1 (n : Nat) (h : n ≤ 255) : [B8 (UInt8.ofNat n)] = [Value.int .u8 (n : Int)] := by
  have e : (UInt8.ofNat n).toNat = n := by rw [UInt8.toNat_ofNat']; omega
  show [Value.int .u8 ((UInt8.ofNat n).toNat : Int)] = _
  rw [e]

theorem b8_mod (n : Nat) : B8 (UInt8.ofNat n) = Value.int .u8 ((n : Int) % 256) := by
  show Value.int .u8 _ = _
  congr 1
theorem b8_lt (n : Nat) (h : n < 256) : B8 (UInt8.ofNat n) = Value.int .u8 (n : Int) := by
  rw [b8_mod]
  congr 1
  omega
theorem head_cells (k l n : Nat) (hk : k < 256) (hl : l < 256) : [UInt8.ofNat k, UInt8.ofNat l, UInt8.ofNat n].map B8 = [.int .u8 (k : Int), .int .u8 (l : Int), .int .u8 ((n : Int) % 256)] := by
  simp only [List.map_cons, List.map_nil, b8_lt k hk, b8_lt l hl, b8_mod n]
/-- What the loops that write know at place i. -/
theorem RdL.full {w : World} {A : Option Addr} {n c : Nat} {es : List Ent} (h : RdL w A n c es) (i : Nat) (hi : i < n) (k : Nat) (hin : esIn es) (hmay : ∀ j, j < es.length → emay k j (es.getD j ent0) = true) :
    ∃ b o A1 n1 c1 A2 n2 c2 m r s K V, A = some ⟨b, o, none⟩ ∧ EAt w b (o + i * 9) A1 n1 c1 A2 n2 c2 ((m : Nat) : Int) r s ∧ Rd w A1 n1 c1 K ∧ Rd w A2 n2 c2 V ∧ es.getD i ent0 = ⟨K, V, (m : Int), r, s⟩ ∧ rfIn r ∧ rfIn s ∧ n1 ≤ 32 ∧ n2 ≤ 64 ∧ m ≤ 1024 := by
  obtain ⟨b, o, A1, n1, c1, A2, n2, c2, e, h1, h2, h3⟩ := h.ent i hi _ rfl
  have hl : i < es.length := by rw [← h.len]; exact hi
  obtain ⟨q1, q2, q3, q4⟩ := emay_le (hmay i hl)
  obtain ⟨_, r1, r2⟩ := hin i hl
  have l1 := h2.len
  have l2 := h3.len
  obtain ⟨x, hx⟩ : ∃ x, es.getD i ent0 = x := ⟨_, rfl⟩
  rw [hx] at h1 h2 h3 q1 q2 q3 q4 r1 r2 l1 l2 ⊢
  obtain ⟨K, V, L, r, s⟩ := x
  dsimp only at h1 h2 h3 q1 q2 q3 q4 r1 r2 l1 l2
  obtain ⟨m, rfl⟩ := Int.eq_ofNat_of_zero_le q3
  exact ⟨b, o, A1, n1, c1, A2, n2, c2, m, r, s, K, V, e, h1, h2, h3, rfl, r1, r2, by omega, by omega, by omega⟩

set_option maxRecDepth 100000 in
set_option maxHeartbeats 6400000 in
theorem write_any (k l : Nat) (A : Option Addr) (n c : Nat) (es : List Ent) (w : World) (h : RdL w A n c es) (hk : k < 256) (hl : l < 256) (hin : esIn es) (hmay : ∀ j, j < es.length → emay k j (es.getD j ent0) = true) (hN : 3 + (entsB k es).length ≤ 140737488355328) :
    Calls Try.prog 30 #[NdV k l A n c] w fun e w' => ∃ A' c', e = .returned (.slice A' (3 + (entsB k es).length) c') ∧ Own w' w.heap.size A' (3 + (entsB k es).length) c' (nodeB k l es) ∧ Below w.heap.size w w' := by
  have hcap := h.cap
  have hmax := h.max
  unfold maxLen at hmax
  have HLn := Lib.hid h.len
  obtain ⟨W, hW⟩ : ∃ W, W = w.alloc (.cells #[.int .u8 (k : Int), .int .u8 (l : Int), .slice A n c] 24) := ⟨_, rfl⟩
  have HWB : Hid (Below w.heap.size w W) := by rw [hW]; exact below_new1 _ _
  have KN : Hid (Blk W w.heap.size 24 #[.int .u8 (k : Int), .int .u8 (l : Int), .slice A n c]) := by rw [hW]; exact Blk.new _ _ _
  have HR := Lib.hid (h.below HWB.out)
  have HW := Lib.hid hW
  have HIN := Lib.hid hin
  have HMAY := Lib.hid hmay
  have HN := Lib.hid hN
  have hWs : w.heap.size < W.heap.size := KN.out.lt
  clear h hW hin hmay hN
  go_enter Try.func30, Try.ntmps30
  go_wp2_with fail
  obtain ⟨hd, Hhd⟩ : ∃ hd, Hid (hd = [UInt8.ofNat k, UInt8.ofNat l, UInt8.ofNat n]) := ⟨_, rfl⟩
  have hof : Hid (Own (W.alloc (.cells #[.int .u8 (k : Int), .int .u8 (l : Int), .int .u8 ((n : Int) % 256)] 5)) W.heap.size (some ⟨w.heap.size + 1, 0, none⟩) 3 3 hd) := by
    have := Own.fresh W W.heap.size hd 3 (by rw [Hhd.out]; rfl) (by omega) (Nat.le_refl _)
    rw [Hhd.out, head_cells k l n hk hl] at this
    rw [Hhd.out]
    have e : W.heap.size = w.heap.size + 1 := by rw [HW.out]; simp
    rw [e] at this
    exact (by show Own _ _ _ _ _ _; rw [e]; exact this)
  rw [← HW.out]
  go_loopw [3, 18] (fun v z wr => ∃ (i t c2 : Nat) (A2 : Option Addr), i ≤ n ∧ z = .int .i64 (i : Int) ∧ v = .slice A2 t c2 ∧ t = 3 + (entsB k (es.take i)).length ∧ Own wr W.heap.size A2 t c2 (hd ++ entsB k (es.take i)) ∧ Below W.heap.size W wr)
    (fun _ z _ => n - (intOf z).toNat)
  case atStart => exact ⟨0, 3, 3, _, Nat.zero_le _, rfl, rfl, rfl, by simpa [entsB] using hof.out, below_new1 _ _⟩
  case round =>
    obtain ⟨i, t, c3, A3, hi, rfl, rfl, ht, hown, hbel⟩ := hrel
    have HT := Lib.hid ht
    have HO := Lib.hid hown
    have HBE := Lib.hid hbel
    have hbs := hbel.size
    have KNr := Lib.hid (KN.out.below hbel KN.out.lt)
    clear ht hown hbel hof
    by_cases hlt : i < n
    · obtain ⟨b, o, A1, n1, c1, A2, n2, c2, m, r, s, K, V, rfl, hat, hrk, hrv, hent, hr, hs, hn1, hn2, hm⟩ := HR.out.full i hlt k HIN.out HMAY.out
      have hat := hat.below HBE.out
      have a0 := hat.c0
      have a1 := hat.c1
      have a2 := hat.c2
      have a3 := hat.c3
      have a4 := hat.c4
      have a5 := hat.c5
      have a6 := hat.c6
      have a7 := hat.c7
      have a8 := hat.c8
      have i1 : (0 : Int) ≤ (i : Int) := by omega
      have i2 : (i : Int) < (n : Int) := by omega
      have hto := entsB_mono k es i (by rw [← HLn.out]; exact hlt)
      have hst := entsB_step k es i (by rw [← HLn.out]; exact hlt)
      rw [hent] at hto hst
      have HST := Lib.hid hst
      have HRK := Lib.hid hrk
      have HRV := Lib.hid hrv
      have hNN := HN.out
      have htt := HT.out
      obtain ⟨EB, hEB⟩ : ∃ EB, EB = entB k ⟨K, V, (m : Int), r, s⟩ := ⟨_, rfl⟩
      rw [← hEB] at hto hst HST
      have hsum : t + EB.length ≤ 140737488355328 := by omega
      have HEB := Lib.hid hEB
      clear hat hrk hrv hent hto hst hNN htt hEB
      go_upto_region 5 with fail
      obtain ⟨Y, hY⟩ : ∃ Y, Y = wr.alloc (.cells #[.slice A1 n1 c1, .slice A2 n2 c2, .int .i64 (m : Int), .int .u32 (r.1 : Int), .int .u64 (r.2.1 : Int), .int .u16 (r.2.2 : Int), .int .u32 (s.1 : Int), .int .u64 (s.2.1 : Int), .int .u16 (s.2.2 : Int)] 49) := ⟨_, rfl⟩
      obtain ⟨X, hX⟩ : ∃ X, wr.heap.size = X := ⟨_, rfl⟩
      have hbY : Below wr.heap.size wr Y := by rw [hY]; exact below_new1 _ _
      have KX : Hid (Blk Y X 49 (enA A1 n1 c1 A2 n2 c2 (m : Int) r s)) := by rw [hY]; exact Blk.new' _ _ _ _ hX
      rw [← hY, hX]
      have KNy := Lib.hid (KNr.out.below hbY KNr.out.lt)
      have HOy := Lib.hid (HO.out.below hbY)
      have HBy : Hid (Below W.heap.size W Y) := HBE.out.trans (hbY.mono hbs)
      have hys := HBy.out.size
      have hXge : W.heap.size ≤ X := by omega
      have hXlt := KX.out.lt
      clear hbY a0 a1 a2 a3 a4 a5 a6 a7 a8 hY HO HBE hX hbs KNr
      have x0 : Y.cell? ⟨X, 0, none⟩ = some (.slice A1 n1 c1) := KX.out.cell 0
      have hE1 : 1 + n1 ≤ EB.length := by
        rw [HEB.out, entB, HRK.out.len]; simp; omega
      have hw8 : IntKind.u8.wrap (n1 : Int) = (n1 : Int) := IntWalk.u8_in _ (by omega)
      refine region_gate 11 (fun w' => w'.cell? ⟨X, 0, none⟩ = some (.slice A1 n1 c1)) (by kernel_rfl) ?th1 (fun hHeld => ?tk1)
      case th1 => ((try dsimp only); exact x0)
      refine' takeV 0 (oi := _) (d := _) (v := _) ?ti2 ?td2 (by kernel_rfl) (by kernel_rfl) (by kernel_rfl) (by kernel_rfl) (by decide) (fun _ _ _ _ _ h => h) ?tg2 ?ty2 (by assumption) ?tr2
      case ti2 => (simp only [List.getElem?_toArray, List.getElem?_cons_succ, List.getElem?_cons_zero]; rfl)
      case td2 => exact rfl
      case tg2 => exact rfl
      case ty2 => (intro w hSw; (try dsimp only at hSw); go_split_ands; go_simp; try with_reducible rfl)
      simp only [List.setIfInBounds_toArray, List.set_cons_zero, List.set_cons_succ]
      refine' takeV 1 (oi := _) (d := _) (v := _) ?ti3 ?td3 (by kernel_rfl) (by kernel_rfl) (by kernel_rfl) (by kernel_rfl) (by decide) (fun _ _ _ _ _ h => h) ?tg3 ?ty3 (by assumption) ?tr3
      case ti3 => (simp only [List.getElem?_toArray, List.getElem?_cons_succ, List.getElem?_cons_zero]; rfl)
      case td3 => exact rfl
      case tg3 => exact rfl
      case ty3 => (intro w hSw; (try dsimp only at hSw); go_split_ands; go_simp; try with_reducible rfl)
      simp only [List.setIfInBounds_toArray, List.set_cons_zero, List.set_cons_succ]
      refine' takeV 2 (oi := _) (d := _) (v := _) ?ti4 ?td4 (by kernel_rfl) (by kernel_rfl) (by kernel_rfl) (by kernel_rfl) (by decide) (fun _ _ _ _ _ h => h) ?tg4 ?ty4 (by assumption) ?tr4
      case ti4 => (simp only [List.getElem?_toArray, List.getElem?_cons_succ, List.getElem?_cons_zero]; rfl)
      case td4 => exact rfl
      case tg4 => exact rfl
      case ty4 => (intro w hSw; (try dsimp only at hSw); go_split_ands; go_simp; try with_reducible rfl)
      simp only [List.setIfInBounds_toArray, List.set_cons_zero, List.set_cons_succ]
      refine' takeV 3 (oi := _) (d := _) (v := _) ?ti5 ?td5 (by kernel_rfl) (by kernel_rfl) (by kernel_rfl) (by kernel_rfl) (by decide) (fun _ _ _ _ _ h => h) ?tg5 ?ty5 (by assumption) ?tr5
      case ti5 => (simp only [List.getElem?_toArray, List.getElem?_cons_succ, List.getElem?_cons_zero]; rfl)
      case td5 => exact rfl
      case tg5 => exact rfl
      case ty5 => (intro w hSw; (try dsimp only at hSw); go_split_ands; go_simp; try with_reducible rfl)
      simp only [List.setIfInBounds_toArray, List.set_cons_zero, List.set_cons_succ]
      refine' takeV 4 (oi := _) (d := _) (v := _) ?ti6 ?td6 (by kernel_rfl) (by kernel_rfl) (by kernel_rfl) (by kernel_rfl) (by decide) (fun _ _ _ _ _ h => h) ?tg6 ?ty6 (by assumption) ?tr6
      case ti6 => (simp only [List.getElem?_toArray, List.getElem?_cons_succ, List.getElem?_cons_zero]; rfl)
      case td6 => exact rfl
      case tg6 => exact rfl
      case ty6 => (intro w hSw; (try dsimp only at hSw); go_split_ands; go_simp; try with_reducible rfl)
      simp only [List.setIfInBounds_toArray, List.set_cons_zero, List.set_cons_succ]
      refine' takeV 7 (oi := _) (d := _) (v := _) ?ti7 ?td7 (by kernel_rfl) (by kernel_rfl) (by kernel_rfl) (by kernel_rfl) (by decide) (fun _ _ _ _ _ h => h) ?tg7 ?ty7 (by assumption) ?tr7
      case ti7 => (simp only [List.getElem?_toArray, List.getElem?_cons_succ, List.getElem?_cons_zero]; rfl)
      case td7 => exact rfl
      case tg7 => exact rfl
      case ty7 => (intro w hSw; (try dsimp only at hSw); go_split_ands; go_simp; try with_reducible rfl)
      simp only [List.setIfInBounds_toArray, List.set_cons_zero, List.set_cons_succ]
      refine' takeV 8 (oi := _) (d := _) (v := _) ?ti8 ?td8 (by kernel_rfl) (by kernel_rfl) (by kernel_rfl) (by kernel_rfl) (by decide) (fun _ _ _ _ _ h => h) ?tg8 ?ty8 (by assumption) ?tr8
      case ti8 => (simp only [List.getElem?_toArray, List.getElem?_cons_succ, List.getElem?_cons_zero]; rfl)
      case td8 => exact rfl
      case tg8 => exact rfl
      case ty8 => (intro w hSw; (try dsimp only at hSw); go_split_ands; go_simp; try with_reducible rfl)
      simp only [List.setIfInBounds_toArray, List.set_cons_zero, List.set_cons_succ]
      obtain ⟨Y1, hY1⟩ : ∃ Y1, Y1 = Y.drew := ⟨_, rfl⟩
      have K1 : Hid (Blk Y1 X 49 (enA A1 n1 c1 A2 n2 c2 (m : Int) r s)) := by rw [hY1]; exact KX.out.drew
      have O1 : Hid (Own Y1 W.heap.size A3 t c3 (hd ++ entsB k (es.take i))) := by rw [hY1]; exact HOy.out
      have B1 : Hid (Below W.heap.size W Y1) := by rw [hY1]; exact HBy.out.drew
      have N1 : Hid (Blk Y1 w.heap.size 24 (ndA k l (some ⟨b, o, none⟩) n c)) := by rw [hY1]; exact KNy.out.drew
      rw [← hY1] at hHeld ⊢
      clear hY1 hHeld
      have y1s := B1.out.size
      refine stepG 5 (by kernel_rfl) (by simp only [List.getElem?_toArray, List.getElem?_cons_succ, List.getElem?_cons_zero]; rfl) (fun K hK => ?_)
      go_simp
      refine hK.out _ _ ?ts9 (fun hHeld => ?_)
      case ts9 => ((try dsimp only); exact (K1.out.alloc _).cell 0)
      clear hK K
      obtain ⟨Y2, hY2⟩ : ∃ Y2, Y2 = Y1.alloc (.cells #[.int .u8 (n1 : Int)] 5) := ⟨_, rfl⟩
      have hb2 : Below Y1.heap.size Y1 Y2 := by rw [hY2]; exact below_new1 _ _
      have K2 := Lib.hid (K1.out.below hb2 K1.out.lt)
      have N2 := Lib.hid (N1.out.below hb2 N1.out.lt)
      have O2 := Lib.hid (O1.out.below hb2)
      have B2 : Hid (Below W.heap.size W Y2) := B1.out.trans (hb2.mono y1s)
      have R2 : Hid (Rd Y2 (some ⟨Y1.heap.size, 0, none⟩) 1 1 [UInt8.ofNat n1]) := by
        have := Rd.fresh Y1 [UInt8.ofNat n1] 1 rfl (by omega)
        rw [show [UInt8.ofNat n1].map B8 = [Value.int .u8 (n1 : Int)] by rw [List.map_cons, List.map_nil, b8_lt _ (by omega)]] at this
        rw [hY2]; exact this
      have y2s := B2.out.size
      rw [← hY2] at hHeld ⊢
      clear hY2 hb2 hHeld K1 N1 O1 B1
      refine stepG 6 (by kernel_rfl) (by simp only [List.getElem?_toArray, List.getElem?_cons_succ, List.getElem?_cons_zero]; rfl) (fun K hK => ?_)
      refine step_app 34 Try.underlying34 rfl (.tmp 22) (.tmp 27) rfl rfl rfl O2.out R2.out y2s (by omega) ?_
      intro A4 c4 Y3 hown3 hg3 hb3
      refine hK.out _ _ ?ts10 (fun hHeld => ?_)
      case ts10 => ((try dsimp only); exact (O2.out.keep_blk K2.out (by decide) hg3).cell 0)
      clear hK K
      have K3 := Lib.hid (O2.out.keep_blk K2.out (by decide) hg3)
      have N3 := Lib.hid (O2.out.keep_blk N2.out (by decide) hg3)
      have O3 := Lib.hid hown3
      have B3 : Hid (Below W.heap.size W Y3) := B2.out.trans hb3
      have y3s := B3.out.size
      have RK3 := Lib.hid (HRK.out.below B3.out)
      clear hown3 hg3 hb3 hHeld O2 K2 N2 R2 B2
      have hHeld := K3.out.cell 0
      refine stepG 9 (by kernel_rfl) (by simp only [List.getElem?_toArray, List.getElem?_cons_succ, List.getElem?_cons_zero]; rfl) (fun K hK => ?_)
      refine step_app 34 Try.underlying34 rfl (.tmp 28) (.tmp 30) rfl rfl rfl O3.out RK3.out y3s (by omega) ?_
      intro A5 c5 Y4 hown4 hg4 hb4
      refine hK.out _ _ ?ts11 (fun hHeld => ?_)
      case ts11 => ((try dsimp only); exact (O3.out.keep_blk K3.out (by decide) hg4).cell 0)
      clear hK K
      have K4 := Lib.hid (O3.out.keep_blk K3.out (by decide) hg4)
      have N4 := Lib.hid (O3.out.keep_blk N3.out (by decide) hg4)
      have O4 := Lib.hid hown4
      have B4 : Hid (Below W.heap.size W Y4) := B3.out.trans hb4
      have y4s := B4.out.size
      clear hown4 hg4 hb4 O3 K3 N3 B3 RK3
      refine stepG 10 (by kernel_rfl) (by simp only [List.getElem?_toArray, List.getElem?_cons_succ, List.getElem?_cons_zero]; rfl) (fun K hK => ?_)
      go_simp
      refine hK.out _ _ ?ts12 (fun hHeld => ?_)
      case ts12 => ((try dsimp only); assumption)
      clear hK K
      refine doneG (by kernel_rfl) ?_ _
      clear hHeld
      have d0 : Y4.cell? ⟨w.heap.size, 0, none⟩ = some (.int .u8 (k : Int)) := N4.out.cell 0
      have x2 : Y4.cell? ⟨X, 2, none⟩ = some (.int .i64 (m : Int)) := K4.out.cell 2
      have x3 : Y4.cell? ⟨X, 3, none⟩ = some (.int .u32 (r.1 : Int)) := K4.out.cell 3
      have x4 : Y4.cell? ⟨X, 4, none⟩ = some (.int .u64 (r.2.1 : Int)) := K4.out.cell 4
      have x5 : Y4.cell? ⟨X, 5, none⟩ = some (.int .u16 (r.2.2 : Int)) := K4.out.cell 5
      have x6 : Y4.cell? ⟨X, 6, none⟩ = some (.int .u32 (s.1 : Int)) := K4.out.cell 6
      have x7 : Y4.cell? ⟨X, 7, none⟩ = some (.int .u64 (s.2.1 : Int)) := K4.out.cell 7
      have x8 : Y4.cell? ⟨X, 8, none⟩ = some (.int .u16 (s.2.2 : Int)) := K4.out.cell 8
      obtain ⟨base, Hbase⟩ : ∃ bb, Hid (hd ++ entsB k (es.take i) ++ [UInt8.ofNat n1] ++ K = bb) := ⟨_, rfl⟩
      rw [Hbase.out] at O4
      by_cases hk2 : k = 2
      · have hkb : ((k : Int) == 2) = true := by rw [beq_iff_eq]; omega
        have hEB2 : EB.length = 1 + n1 + 14 := by
          rw [HEB.out, entB, if_pos hk2, HRK.out.len]; simp [rfB_length]; omega
        have HEB3 : Hid (hd ++ entsB k (es.take (i + 1)) = base ++ rfB s) := by
          show _ = _
          rw [HST.out, HEB.out, entB, if_pos hk2, ← Hbase.out, HRK.out.len]; simp
        clear hk2
        go_wp2_with fail
        refine (ref_any s hs Y4).mono ?_
        rintro e Y5 ⟨A6, c6, rfl, hown5, hb5⟩
        have O5 := Lib.hid hown5
        have O45 := Lib.hid (O4.out.below hb5)
        have B5 : Hid (Below W.heap.size W Y5) := B4.out.trans (hb5.mono y4s)
        have y5s := B5.out.size
        clear hown5 hb5
        go_wp2_with (at_builtin; refine wpList_app 34 Try.underlying34 rfl (.tmp 46) (.tmp 49) rfl rfl rfl O45.out O5.out.rd y5s (by omega) ?_; intro A7 c7 Y6 hown6 hg6 hb6)
        go_roundw
        case rel =>
          refine ⟨i + 1, t + 1 + n1 + 14, c7, A7, by omega, by go_num, rfl, ?_, ?_, B5.out.trans hb6⟩
          · rw [HST.out, List.length_append, HT.out] at *; omega
          · rw [HEB3.out]; exact hown6
        case measure => first | (simp [intOf]; done) | (simp [intOf]; omega)
      · have hkb : ((k : Int) == 2) = false := by rw [beq_eq_false_iff_ne]; omega
        by_cases hm0 : m = 0
        · have hdm : ¬ 0 < m := by omega
          have x1 : Y4.cell? ⟨X, 1, none⟩ = some (.slice A2 n2 c2) := K4.out.cell 1
          have hEB2 : EB.length = 1 + n1 + 2 + n2 := by
            rw [HEB.out, entB, if_neg hk2, if_pos (by simp [hm0]), HRK.out.len, HRV.out.len]; simp; omega
          have HEB3 : Hid (hd ++ entsB k (es.take (i + 1)) = base ++ [0, UInt8.ofNat n2] ++ V) := by
            show _ = _
            rw [HST.out, HEB.out, entB, if_neg hk2, if_pos (by simp [hm0]), ← Hbase.out, HRK.out.len, HRV.out.len]; simp
          clear hk2 hm0
          have hw9 : IntKind.u8.wrap (n2 : Int) = (n2 : Int) := IntWalk.u8_in _ (by omega)
          go_wp2_with fail
          clear d0 x2 x3 x4 x5 x6 x7 x8
          refine region_gate 11 (fun w' => w'.cell? ⟨X, 1, none⟩ = some (.slice A2 n2 c2)) (by kernel_rfl) ?th13 (fun hHeld => ?tk13)
          case th13 => ((try dsimp only); exact x1)
          refine' takeV 0 (oi := _) (d := _) (v := _) ?ti14 ?td14 (by kernel_rfl) (by kernel_rfl) (by kernel_rfl) (by kernel_rfl) (by decide) (fun _ _ _ _ _ h => h) ?tg14 ?ty14 (by assumption) ?tr14
          case ti14 => (simp only [List.getElem?_toArray, List.getElem?_cons_succ, List.getElem?_cons_zero]; rfl)
          case td14 => exact rfl
          case tg14 => exact rfl
          case ty14 => (intro w hSw; (try dsimp only at hSw); go_split_ands; go_simp; try with_reducible rfl)
          simp only [List.setIfInBounds_toArray, List.set_cons_zero, List.set_cons_succ]
          refine' takeV 1 (oi := _) (d := _) (v := _) ?ti15 ?td15 (by kernel_rfl) (by kernel_rfl) (by kernel_rfl) (by kernel_rfl) (by decide) (fun _ _ _ _ _ h => h) ?tg15 ?ty15 (by assumption) ?tr15
          case ti15 => (simp only [List.getElem?_toArray, List.getElem?_cons_succ, List.getElem?_cons_zero]; rfl)
          case td15 => exact rfl
          case tg15 => exact rfl
          case ty15 => (intro w hSw; (try dsimp only at hSw); go_split_ands; go_simp; try with_reducible rfl)
          simp only [List.setIfInBounds_toArray, List.set_cons_zero, List.set_cons_succ]
          refine' takeV 2 (oi := _) (d := _) (v := _) ?ti16 ?td16 (by kernel_rfl) (by kernel_rfl) (by kernel_rfl) (by kernel_rfl) (by decide) (fun _ _ _ _ _ h => h) ?tg16 ?ty16 (by assumption) ?tr16
          case ti16 => (simp only [List.getElem?_toArray, List.getElem?_cons_succ, List.getElem?_cons_zero]; rfl)
          case td16 => exact rfl
          case tg16 => exact rfl
          case ty16 => (intro w hSw; (try dsimp only at hSw); go_split_ands; go_simp; try with_reducible rfl)
          simp only [List.setIfInBounds_toArray, List.set_cons_zero, List.set_cons_succ]
          refine' takeV 3 (oi := _) (d := _) (v := _) ?ti17 ?td17 (by kernel_rfl) (by kernel_rfl) (by kernel_rfl) (by kernel_rfl) (by decide) (fun _ _ _ _ _ h => h) ?tg17 ?ty17 (by assumption) ?tr17
          case ti17 => (simp only [List.getElem?_toArray, List.getElem?_cons_succ, List.getElem?_cons_zero]; rfl)
          case td17 => exact rfl
          case tg17 => exact rfl
          case ty17 => (intro w hSw; (try dsimp only at hSw); go_split_ands; go_simp; try with_reducible rfl)
          simp only [List.setIfInBounds_toArray, List.set_cons_zero, List.set_cons_succ]
          refine' takeV 4 (oi := _) (d := _) (v := _) ?ti18 ?td18 (by kernel_rfl) (by kernel_rfl) (by kernel_rfl) (by kernel_rfl) (by decide) (fun _ _ _ _ _ h => h) ?tg18 ?ty18 (by assumption) ?tr18
          case ti18 => (simp only [List.getElem?_toArray, List.getElem?_cons_succ, List.getElem?_cons_zero]; rfl)
          case td18 => exact rfl
          case tg18 => exact rfl
          case ty18 => (intro w hSw; (try dsimp only at hSw); go_split_ands; go_simp; try with_reducible rfl)
          simp only [List.setIfInBounds_toArray, List.set_cons_zero, List.set_cons_succ]
          refine' takeV 7 (oi := _) (d := _) (v := _) ?ti19 ?td19 (by kernel_rfl) (by kernel_rfl) (by kernel_rfl) (by kernel_rfl) (by decide) (fun _ _ _ _ _ h => h) ?tg19 ?ty19 (by assumption) ?tr19
          case ti19 => (simp only [List.getElem?_toArray, List.getElem?_cons_succ, List.getElem?_cons_zero]; rfl)
          case td19 => exact rfl
          case tg19 => exact rfl
          case ty19 => (intro w hSw; (try dsimp only at hSw); go_split_ands; go_simp; try with_reducible rfl)
          simp only [List.setIfInBounds_toArray, List.set_cons_zero, List.set_cons_succ]
          refine' takeV 8 (oi := _) (d := _) (v := _) ?ti20 ?td20 (by kernel_rfl) (by kernel_rfl) (by kernel_rfl) (by kernel_rfl) (by decide) (fun _ _ _ _ _ h => h) ?tg20 ?ty20 (by assumption) ?tr20
          case ti20 => (simp only [List.getElem?_toArray, List.getElem?_cons_succ, List.getElem?_cons_zero]; rfl)
          case td20 => exact rfl
          case tg20 => exact rfl
          case ty20 => (intro w hSw; (try dsimp only at hSw); go_split_ands; go_simp; try with_reducible rfl)
          simp only [List.setIfInBounds_toArray, List.set_cons_zero, List.set_cons_succ]
          obtain ⟨Y5, hY5⟩ : ∃ Y5, Y5 = Y4.drew := ⟨_, rfl⟩
          have K5 : Hid (Blk Y5 X 49 (enA A1 n1 c1 A2 n2 c2 (m : Int) r s)) := by rw [hY5]; exact K4.out.drew
          have O5 : Hid (Own Y5 W.heap.size A5 (t + 1 + n1) c5 base) := by rw [hY5]; exact O4.out
          have B5 : Hid (Below W.heap.size W Y5) := by rw [hY5]; exact B4.out.drew
          rw [← hY5] at hHeld ⊢
          clear hY5 hHeld x1 K4 N4 O4 B4
          have y5s := B5.out.size
          refine stepG 5 (by kernel_rfl) (by simp only [List.getElem?_toArray, List.getElem?_cons_succ, List.getElem?_cons_zero]; rfl) (fun K hK => ?_)
          go_simp
          refine hK.out _ _ ?ts21 (fun hHeld => ?_)
          case ts21 => ((try dsimp only); exact (K5.out.alloc _).cell 1)
          clear hK K
          obtain ⟨Y6, hY6⟩ : ∃ Y6, Y6 = Y5.alloc (.cells #[.int .u8 0, .int .u8 (n2 : Int)] 5) := ⟨_, rfl⟩
          have hb6 : Below Y5.heap.size Y5 Y6 := by rw [hY6]; exact below_new1 _ _
          have K6 := Lib.hid (K5.out.below hb6 K5.out.lt)
          have O6 := Lib.hid (O5.out.below hb6)
          have B6 : Hid (Below W.heap.size W Y6) := B5.out.trans (hb6.mono y5s)
          have R6 : Hid (Rd Y6 (some ⟨Y5.heap.size, 0, none⟩) 2 2 [0, UInt8.ofNat n2]) := by
            have := Rd.fresh Y5 [0, UInt8.ofNat n2] 2 rfl (by omega)
            rw [show [0, UInt8.ofNat n2].map B8 = [Value.int .u8 0, Value.int .u8 (n2 : Int)] by rw [List.map_cons, List.map_cons, List.map_nil, b8_lt _ (by omega)]; rfl] at this
            rw [hY6]; exact this
          have y6s := B6.out.size
          rw [← hY6] at hHeld ⊢
          clear hY6 hb6 hHeld K5 O5 B5
          refine stepG 6 (by kernel_rfl) (by simp only [List.getElem?_toArray, List.getElem?_cons_succ, List.getElem?_cons_zero]; rfl) (fun K hK => ?_)
          refine step_app 34 Try.underlying34 rfl (.tmp 32) (.tmp 37) rfl rfl rfl O6.out R6.out y6s (by omega) ?_
          intro A6 c6 Y7 hown7 hg7 hb7
          refine hK.out _ _ ?ts22 (fun hHeld => ?_)
          case ts22 => ((try dsimp only); exact (O6.out.keep_blk K6.out (by decide) hg7).cell 1)
          clear hK K
          have K7 := Lib.hid (O6.out.keep_blk K6.out (by decide) hg7)
          have O7 := Lib.hid hown7
          have B7 : Hid (Below W.heap.size W Y7) := B6.out.trans hb7
          have y7s := B7.out.size
          have RV7 := Lib.hid (HRV.out.below B7.out)
          clear hown7 hg7 hb7 hHeld O6 K6 R6 B6
          have hHeld := K7.out.cell 1
          refine stepG 9 (by kernel_rfl) (by simp only [List.getElem?_toArray, List.getElem?_cons_succ, List.getElem?_cons_zero]; rfl) (fun K hK => ?_)
          refine step_app 34 Try.underlying34 rfl (.tmp 38) (.tmp 40) rfl rfl rfl O7.out RV7.out y7s (by omega) ?_
          intro A8 c8 Y8 hown8 hg8 hb8
          refine hK.out _ _ ?ts23 (fun hHeld => ?_)
          case ts23 => ((try dsimp only); exact (O7.out.keep_blk K7.out (by decide) hg8).cell 1)
          clear hK K
          refine stepG 10 (by kernel_rfl) (by simp only [List.getElem?_toArray, List.getElem?_cons_succ, List.getElem?_cons_zero]; rfl) (fun K hK => ?_)
          go_simp
          refine hK.out _ _ ?ts24 (fun hHeld => ?_)
          case ts24 => ((try dsimp only); assumption)
          clear hK K
          refine doneG (by kernel_rfl) ?_ _
          clear hHeld
          go_wp2_with fail
          go_roundw
          case rel =>
            refine ⟨i + 1, t + 1 + n1 + 2 + n2, c8, A8, by omega, by go_num, rfl, ?_, ?_, B7.out.trans hb8⟩
            · rw [HST.out, List.length_append, HT.out] at *; omega
            · rw [HEB3.out]; exact hown8
          case measure => first | (simp [intOf]; done) | (simp [intOf]; omega)
        · have hdm : 0 < m := by omega
          have hEB2 : EB.length = 1 + n1 + 3 + 14 := by
            rw [HEB.out, entB, if_neg hk2, if_neg (by dsimp only; omega), HRK.out.len]; simp [rfB_length]; omega
          have HEB3 : Hid (hd ++ entsB k (es.take (i + 1)) = base ++ [1, UInt8.ofNat (m / 256), UInt8.ofNat m] ++ rfB r) := by
            show _ = _
            rw [HST.out, HEB.out, entB, if_neg hk2, if_neg (by dsimp only; omega), ← Hbase.out, HRK.out.len]; simp
          clear hk2 hm0
          have R4 : Hid (Rd (Y4.alloc (.cells #[.int .u8 1, .int .u8 ((m : Int) / 256), .int .u8 ((m : Int) % 256)] 5)) (some ⟨Y4.heap.size, 0, none⟩) 3 3 [1, UInt8.ofNat (m / 256), UInt8.ofNat m]) := by
            have := Rd.fresh Y4 [1, UInt8.ofNat (m / 256), UInt8.ofNat m] 3 rfl (by omega)
            rw [show [1, UInt8.ofNat (m / 256), UInt8.ofNat m].map B8 = [Value.int .u8 1, Value.int .u8 ((m : Int) / 256), Value.int .u8 ((m : Int) % 256)] by rw [List.map_cons, List.map_cons, List.map_cons, List.map_nil, b8_mod m, b8_lt (m / 256) (by omega)]; rfl] at this
            exact this
          go_upto_region 11 with (at_builtin; refine wpList_app 34 Try.underlying34 rfl (.tmp 55) (.tmp 63) rfl rfl rfl (O4.out.alloc _) R4.out (by simp; omega) (by omega) ?_; intro A6 c6 Y5 hown5 hg5 hb5)
          have K5 := Lib.hid ((O4.out.alloc _).keep_blk (K4.out.alloc _) (by decide) hg5)
          have O5 := Lib.hid hown5
          have B5 : Hid (Below W.heap.size W Y5) := (B4.out.alloc y4s _).trans hb5
          have y5s := B5.out.size
          clear hown5 hg5 hb5 d0 x2 x3 x4 x5 x6 x7 x8 R4 O4 K4 N4 B4
          have x3 : Y5.cell? ⟨X, 3, none⟩ = some (.int .u32 (r.1 : Int)) := K5.out.cell 3
          have x4 : Y5.cell? ⟨X, 4, none⟩ = some (.int .u64 (r.2.1 : Int)) := K5.out.cell 4
          have x5 : Y5.cell? ⟨X, 5, none⟩ = some (.int .u16 (r.2.2 : Int)) := K5.out.cell 5
          go_wp2_with fail
          refine (ref_any r hr Y5).mono ?_
          rintro e Y6 ⟨A7, c7, rfl, hown6, hb6⟩
          have O6 := Lib.hid hown6
          have O56 := Lib.hid (O5.out.below hb6)
          have B6 : Hid (Below W.heap.size W Y6) := B5.out.trans (hb6.mono y5s)
          have y6s := B6.out.size
          clear hown6 hb6 x3 x4 x5
          go_wp2_with (at_builtin; refine wpList_app 34 Try.underlying34 rfl (.tmp 65) (.tmp 68) rfl rfl rfl O56.out O6.out.rd y6s (by omega) ?_; intro A8 c8 Y7 hown7 hg7 hb7)
          go_roundw
          case rel =>
            refine ⟨i + 1, t + 1 + n1 + 3 + 14, c8, A8, by omega, by go_num, rfl, ?_, ?_, B6.out.trans hb7⟩
            · rw [HST.out, List.length_append, HT.out] at *; omega
            · rw [HEB3.out]; exact hown7
          case measure => first | (simp [intOf]; done) | (simp [intOf]; omega)
    · obtain rfl : i = n := by omega
      have ho := HO.out
      have ht := HT.out
      rw [HLn.out, List.take_length] at ho ht
      have HO2 := Lib.hid ho
      have HT2 := Lib.hid ht
      clear ho ht hi hlt
      go_wp2_with fail
      go_ret
      refine ⟨A3, c3, by rw [← HT2.out]; rfl, ?_, HWB.out.trans (HBE.out.mono (Nat.le_of_lt hWs))⟩
      rw [← HT2.out, nodeB, ← HLn.out, ← Hhd.out]
      exact HO2.out.mono (Nat.le_of_lt hWs)
end Go.Proofs.Ytihbpmceggghgaa

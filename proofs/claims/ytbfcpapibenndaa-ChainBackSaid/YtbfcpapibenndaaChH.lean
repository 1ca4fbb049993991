/- Contracts: the reference's Cut. -/
import Derived.Test.YtbfcpapibenndaaChG
import Derived.Test.YtbfcpapibenndaaReg
import Derived.StillTailTactics
set_option linter.unusedVariables false
namespace Go.Proofs.Ytbfcpapibenndaa
open Go.RowKit

/-- Piece j of a row of bytes. -/
def chunk (l : List UInt8) (j : Nat) : List UInt8 := (l.drop (208 * j)).take 208
theorem chunk_full (l : List UInt8) (i j : Nat) (h : 208 * (j + 1) ≤ i) : chunk (l.take (i + 1)) j = chunk (l.take i) j := by
  unfold chunk
  rw [List.drop_take, List.drop_take, List.take_take, List.take_take, Nat.min_eq_left (by omega), Nat.min_eq_left (by omega)]
theorem chunk_new (l : List UInt8) (i : Nat) (h : i % 208 = 0) : chunk (l.take i) (i / 208) = [] := by
  unfold chunk
  rw [List.drop_eq_nil_of_le (by rw [List.length_take]; omega)]
  rfl
theorem chunk_len (l : List UInt8) (i : Nat) (h : i ≤ l.length) : (chunk (l.take i) (i / 208)).length = i - 208 * (i / 208) := by
  unfold chunk
  rw [List.length_take, List.length_drop, List.length_take]
  omega
theorem chunk_last (l : List UInt8) (i : Nat) (x : UInt8) (h : i < l.length) (hx : l.getD i 0 = x) : chunk (l.take (i + 1)) (i / 208) = chunk (l.take i) (i / 208) ++ [x] := by
  have e : ∀ m, m ≤ l.length → m ≤ 208 * (i / 208) + 208 → chunk (l.take m) (i / 208) = (l.take m).drop (208 * (i / 208)) := fun m h1 h2 => by
    unfold chunk
    exact List.take_of_length_le (by rw [List.length_drop, List.length_take]; omega)
  rw [e (i + 1) (by omega) (by omega), e i (by omega) (by omega), take_snoc l i h, hx, List.drop_append_of_le_length (by rw [List.length_take]; omega)]
theorem Own.keptV {w w' : World} {H H' : Nat} {A A' : Option Addr} {n c m c' : Nat} {l : List UInt8} {vs : List Value} (h : Own w H A n c l) (h' : OwnV w H' A' m c' vs) (hg : w.grownBy w' (A'.map (·.block))) : Own w' H A n c l := by
  refine h.kept hg fun a ha e => ?_
  cases A' with
  | none => cases e
  | some a' =>
    simp only [Option.map_some, Option.some.injEq] at e
    subst ha
    rcases h.2 with ⟨hv, _⟩ | ⟨g, cap, cur, hv, _⟩
    · cases hv
    · injection hv with h1 _ _
      injection h1 with h1
      subst h1
      exact (h.ne_V h') a' rfl e.symm
theorem OwnV.keptO {w w' : World} {H H' : Nat} {A A' : Option Addr} {n c m c' : Nat} {l : List UInt8} {vs : List Value} (h : OwnV w H' A' m c' vs) (h' : Own w H A n c l) (hg : w.grownBy w' (A.map (·.block))) : OwnV w' H' A' m c' vs := by
  refine h.kept hg fun a ha e => ?_
  cases A with
  | none => cases e
  | some a' =>
    simp only [Option.map_some, Option.some.injEq] at e
    subst ha
    rcases h'.2 with ⟨hv, _⟩ | ⟨g, cap, cur, hv, _⟩
    · cases hv
    · injection hv with h1 _ _
      injection h1 with h1
      subst h1
      exact (h'.ne_V h) a rfl e
/-- What the reference has while it cuts, i bytes read: k pieces; the last one's block is above the others'. -/
def CutM (w : World) (H : Nat) (A : Option Addr) (k c : Nat) (l : List UInt8) (i : Nat) : Prop :=
  ∃ vs M, OwnV w H A k c vs ∧ H ≤ M ∧ M ≤ w.heap.size ∧ (∀ j, j + 1 < k → ∃ A' n' c', vs[j]? = some (.slice A' n' c') ∧ Own w H A' n' c' (chunk (l.take i) j) ∧ ∀ a, A' = some a → a.block < M) ∧
    ∀ q, k = q + 1 → ∃ A' n' c', vs[q]? = some (.slice A' n' c') ∧ Own w M A' n' c' (chunk (l.take i) q)
theorem CutM.nil (w : World) (H : Nat) (l : List UInt8) (hH : H ≤ w.heap.size) : CutM w H none 0 0 l 0 :=
  ⟨[], w.heap.size, OwnV.nil _ _, hH, Nat.le_refl _, fun j hj => by omega, fun q hq => by omega⟩
theorem CutM.all {w : World} {H : Nat} {A : Option Addr} {k c : Nat} {l : List UInt8} {i : Nat} (h : CutM w H A k c l i) :
    ∃ vs, OwnV w H A k c vs ∧ ∀ j, j < k → ∃ A' n' c', vs[j]? = some (.slice A' n' c') ∧ Own w H A' n' c' (chunk (l.take i) j) ∧ ∀ a, A' = some a → a.block < w.heap.size := by
  obtain ⟨vs, M, h1, h2, h3, h4, h5⟩ := h
  refine ⟨vs, h1, fun j hj => ?_⟩
  by_cases e : j + 1 < k
  · obtain ⟨A', n', c', a1, a2, a3⟩ := h4 j e
    exact ⟨A', n', c', a1, a2, fun a ha => Nat.lt_of_lt_of_le (a3 a ha) h3⟩
  · obtain ⟨A', n', c', a1, a2⟩ := h5 j (by omega)
    exact ⟨A', n', c', a1, a2.mono h2, a2.lt⟩
/-- A piece is begun. -/
theorem CutM.begin_ {w w1 : World} {H : Nat} {A A2 : Option Addr} {k c c2 : Nat} {l : List UInt8} {i : Nat} {vs : List Value} (o : Obj) (h1 : OwnV w H A k c vs) (h : ∀ j, j < k → ∃ A' n' c', vs[j]? = some (.slice A' n' c') ∧ Own w H A' n' c' (chunk (l.take i) j) ∧ ∀ a, A' = some a → a.block < w.heap.size)
    (hH : H ≤ w.heap.size) (hk : k = i / 208) (hi : i % 208 = 0) (h2 : OwnV w1 H A2 (k + 1) c2 (vs ++ [.slice none 0 0])) (hg : (w.alloc o).grownBy w1 (A.map (·.block))) : CutM w1 H A2 (k + 1) c2 l i := by
  have hl := h1.len
  have hs1 : w.heap.size ≤ w1.heap.size := Nat.le_trans (by simp) hg.size
  refine ⟨_, w1.heap.size, h2, by omega, Nat.le_refl _, fun j hj => ?_, fun q hq => ?_⟩
  · obtain ⟨A', n', c', a1, a2, a3⟩ := h j (by omega)
    exact ⟨A', n', c', by rw [List.getElem?_append_left (by omega)]; exact a1, (a2.alloc o).keptV (h1.alloc o) hg, fun a ha => Nat.lt_of_lt_of_le (a3 a ha) hs1⟩
  · obtain rfl : q = k := by omega
    refine ⟨none, 0, 0, by rw [List.getElem?_append_right (by omega)]; simp [hl], ?_⟩
    rw [hk, chunk_new l i hi]
    exact Own.nil _ _
theorem ownV_set {w : World} {H g n c : Nat} {vs : List Value} (h : OwnV w H (some ⟨g, 0, none⟩) n c vs) (j : Nat) (v : Value) : OwnV (w.setCell ⟨g, j, none⟩ v) H (some ⟨g, 0, none⟩) n c (vs.set j v) := by
  exact (World.ownsRow.stored h j v).1
theorem setCell_grown (w : World) (p : Addr) (v : Value) : w.grownBy (w.setCell p v) (some p.block) :=
  ⟨rfl, rfl, rfl, by simp [World.setCell], fun k _ hk => Below.heap_setCell w p v k (fun e => hk (by rw [e]))⟩
/-- A byte is put behind the last piece. -/
theorem CutM.step {w w3 : World} {H M g q c i : Nat} {l : List UInt8} {vs : List Value} {A' A3 : Option Addr} {n' c' c3 : Nat} {x : UInt8} (o : Obj) (h1 : OwnV w H (some ⟨g, 0, none⟩) (q + 1) c vs) (hM : H ≤ M) (hMw : M ≤ w.heap.size)
    (hlow : ∀ j, j + 1 < q + 1 → ∃ A' n' c', vs[j]? = some (.slice A' n' c') ∧ Own w H A' n' c' (chunk (l.take i) j) ∧ ∀ a, A' = some a → a.block < M)
    (hlast : Own w M A' n' c' (chunk (l.take i) q)) (hq : q = i / 208) (hi : i < l.length) (hx : l.getD i 0 = x) (h3 : Own w3 M A3 (n' + 1) c3 (chunk (l.take i) q ++ [x])) (hg : (w.alloc o).grownBy w3 (A'.map (·.block))) :
    CutM (w3.setCell ⟨g, q, none⟩ (.slice A3 (n' + 1) c3)) H (some ⟨g, 0, none⟩) (q + 1) c l (i + 1) := by
  have hl := h1.len
  have hs1 : w.heap.size ≤ w3.heap.size := Nat.le_trans (by simp) hg.size
  have hv3 : OwnV w3 H (some ⟨g, 0, none⟩) (q + 1) c vs := (h1.alloc o).keptO (hlast.alloc o) hg
  have hgs : w3.grownBy (w3.setCell ⟨g, q, none⟩ (.slice A3 (n' + 1) c3)) ((some (⟨g, 0, none⟩ : Addr)).map (·.block)) := setCell_grown w3 _ _
  refine ⟨_, M, ownV_set hv3 q _, hM, by simp [World.setCell]; omega, fun j hj => ?_, fun q' hq' => ?_⟩
  · obtain ⟨Aj, nj, cj, a1, a2, a3⟩ := hlow j hj
    refine ⟨Aj, nj, cj, by rw [List.getElem?_set_ne (by omega)]; exact a1, ?_, a3⟩
    rw [chunk_full l i j (by omega)]
    refine ((a2.alloc o).kept hg fun a ha e => ?_).keptV hv3 hgs
    have hb := a3 a ha
    cases A' with
    | none => cases e
    | some b' =>
      have := hlast.ge b' rfl
      simp only [Option.map_some, Option.some.injEq] at e
      omega
  · obtain rfl : q' = q := by omega
    refine ⟨A3, n' + 1, c3, by rw [List.getElem?_set_self (by omega)], ?_⟩
    subst hq
    rw [chunk_last l i x hi hx]
    exact h3.keptV hv3 hgs
set_option maxHeartbeats 3200000 in
theorem refcut_any (A : Option Addr) (n c : Nat) (l : List UInt8) (w : World) (h : Rd w A n c l) (hn : n ≤ 1024) :
    Calls Try.prog 18 #[.slice A n c] w fun e w' => ∃ A2 c2, e = .returned (.slice A2 ((n + 207) / 208) c2) ∧ CutM w' w.heap.size A2 ((n + 207) / 208) c2 l n ∧ Below w.heap.size w w' := by
  have HR := Lib.hid h
  have hcap := h.cap
  have HL := Lib.hid h.len
  clear h
  go_enter Try.func18, Try.ntmps18
  go_wp2_with fail
  go_loopw [3, 4] (fun v z wr => ∃ (i k c2 : Nat) (A2 : Option Addr), i ≤ n ∧ k = (i + 207) / 208 ∧ z = .int .i64 (i : Int) ∧ v = .slice A2 k c2 ∧ CutM wr w.heap.size A2 k c2 l i ∧ Below w.heap.size w wr)
    (fun _ z _ => n - (intOf z).toNat)
  case atStart => exact ⟨0, 0, 0, none, Nat.zero_le _, rfl, rfl, rfl, CutM.nil _ _ _ (Nat.le_refl _), Below.refl _ _⟩
  case round =>
    obtain ⟨i, k, c2, A2, hi, hk, rfl, rfl, hcm, hbel⟩ := hrel
    have HM := Lib.hid hcm
    have HBel := Lib.hid hbel
    clear hcm hbel
    by_cases hlt : i < n
    · have hrem : Int.tmod (i : Int) 208 = ((i % 208 : Nat) : Int) := by rw [Int.tmod_eq_emod_of_nonneg (by omega)]; omega
      obtain ⟨q, hq⟩ : ∃ q, q = i / 208 := ⟨_, rfl⟩
      have hq4 : q ≤ 4 := by omega
      have hbs := HBel.out.size
      obtain ⟨b, o, rfl, hc⟩ := HR.out.at_ (by omega)
      have HC := Lib.hid hc
      clear hc
      obtain ⟨x, HX, hcell0, hx⟩ := Rd.cellx HC i hlt
      have hlb := World.block_lt_of_cell? w _ hcell0
      have hlb' : b < w.heap.size := hlb
      have HX0 := Lib.hid hcell0
      clear hcell0 hi
      by_cases hr : i % 208 = 0
      · have hrb : (((i : Int) % 208) == 0) = true := by rw [beq_iff_eq]; omega
        obtain rfl : q = k := by omega
        obtain ⟨vs, hv, hall⟩ := CutM.all HM.out
        have HV := Lib.hid hv
        have HA := Lib.hid hall
        have HQ := Lib.hid hq
        have HRR := Lib.hid hr
        clear hv hall hq hr hk hrem
        go_upto_region 7 with (at_builtin; refine wpList_appV 38 Try.underlying38 rfl (.tmp 14) (.tmp 15) rfl (v := .slice none 0 0) rfl rfl (HV.out.alloc _) ((Blk.new wr 27 _).cell 0) rfl (by first | (simp; done) | (simp; omega)) (by omega) ?_; intro A3 c3 w3 hown3 hg3 hb3)
        have HM3 := Lib.hid (CutM.begin_ _ HV.out HA.out hbs HQ.out HRR.out hown3 hg3)
        have HB3 : Hid (Below w.heap.size w w3) := (HBel.out.alloc hbs _).trans (hb3.mono (by first | (simp; done) | (simp; omega)))
        clear hown3 hg3 hb3 HV HA HM HBel HRR
        obtain ⟨vs, M, hv, hHM, hMw, hlow, hlast⟩ := HM3.out
        obtain ⟨A', n', c', hvq, hown'⟩ := hlast q rfl
        obtain ⟨g, rfl, hgH⟩ := hv.split (by omega)
        have hcellq : w3.cell? ⟨g, q, none⟩ = some (.slice A' n' c') := hv.cell q _ hvq
        have hfrq : w3.frozen? ⟨g, q, none⟩ = false := World.ownsRow.frozenAt hv q
        have hcellx : w3.cell? ⟨b, o + i, none⟩ = some (.int .u8 (x.toNat : Int)) := (HB3.out.cell hlb).trans HX0.out
        have hn' : n' = i - 208 * q := by
          rw [hown'.len, HQ.out]; exact chunk_len l i (by rw [← HL.out]; omega)
        have hn2 : n' ≤ 1024 := by omega
        have hcq := hv.cap.1
        have hcm := hv.cap.2
        unfold maxLen at hcm
        have hs3 := HB3.out.size
        have HV := Lib.hid hv
        have HLOW := Lib.hid hlow
        have HLA := Lib.hid hown'
        have HVQ := Lib.hid hvq
        have HFQ := Lib.hid hfrq
        have gw : g < w3.heap.size := World.block_lt_of_cell? w3 _ hcellq
        have bw : b < w3.heap.size := World.block_lt_of_cell? w3 _ hcellx
        have hq1 : (0 : Int) ≤ (q : Int) := by omega
        have hq2 : (q : Int) < (q : Int) + 1 := by omega
        have hwq : IntKind.i64.wrap (q : Int) = (q : Int) := IntWalk.i64_in _ (by omega)
        have hiq : (i : Int) < (n : Int) := by omega
        clear hv hlow hlast hown' hvq hn' hfrq HM3
        refine region_gate 17 (fun w' => w'.cell? ⟨g, q, none⟩ = some (.slice A' n' c') ∧ w'.cell? ⟨b, o + i, none⟩ = some (.int .u8 (x.toNat : Int))) (by kernel_rfl) ?th1 (fun hHeld => ?tk1)
        case th1 => ((try dsimp only); exact ⟨hcellq, hcellx⟩)
        refine' takeV 0 (oi := _) (d := _) (v := _) ?ti2 ?td2 (by kernel_rfl) (by kernel_rfl) (by kernel_rfl) (by kernel_rfl) (by decide) (fun _ _ _ _ _ h => h) ?tg2 ?ty2 (by assumption) ?tr2
        case ti2 => (simp only [List.getElem?_toArray, List.getElem?_cons_succ, List.getElem?_cons_zero]; rfl)
        case td2 => exact rfl
        case tg2 => exact rfl
        case ty2 => (intro w hSw; (try dsimp only at hSw); go_split_ands; go_simp; try with_reducible rfl)
        simp only [List.setIfInBounds_toArray, List.set_cons_zero, List.set_cons_succ]
        refine' takeV 1 (oi := _) (d := _) (v := _) ?ti3 ?td3 (by kernel_rfl) (by kernel_rfl) (by kernel_rfl) (by kernel_rfl) (by decide) (fun _ _ _ _ _ h => h) ?tg3 ?ty3 (by assumption) ?tr3
        case ti3 => (simp only [List.getElem?_toArray, List.getElem?_cons_succ, List.getElem?_cons_zero]; rfl)
        case td3 => exact rfl
        case tg3 => exact rfl
        case ty3 => (intro w hSw; (try dsimp only at hSw); go_split_ands; go_simp; try with_reducible rfl)
        simp only [List.setIfInBounds_toArray, List.set_cons_zero, List.set_cons_succ]
        refine' takeV 2 (oi := _) (d := _) (v := _) ?ti4 ?td4 (by kernel_rfl) (by kernel_rfl) (by kernel_rfl) (by kernel_rfl) (by decide) (fun _ _ _ _ _ h => h) ?tg4 ?ty4 (by assumption) ?tr4
        case ti4 => (simp only [List.getElem?_toArray, List.getElem?_cons_succ, List.getElem?_cons_zero]; rfl)
        case td4 => exact rfl
        case tg4 => exact rfl
        case ty4 => (intro w hSw; (try dsimp only at hSw); go_split_ands; go_simp; try with_reducible rfl)
        simp only [List.setIfInBounds_toArray, List.set_cons_zero, List.set_cons_succ]
        refine' takeV 3 (oi := _) (d := _) (v := _) ?ti5 ?td5 (by kernel_rfl) (by kernel_rfl) (by kernel_rfl) (by kernel_rfl) (by decide) (fun _ _ _ _ _ h => h) ?tg5 ?ty5 (by assumption) ?tr5
        case ti5 => (simp only [List.getElem?_toArray, List.getElem?_cons_succ, List.getElem?_cons_zero]; rfl)
        case td5 => exact rfl
        case tg5 => exact rfl
        case ty5 => (intro w hSw; (try dsimp only at hSw); go_split_ands; go_simp; try with_reducible rfl)
        simp only [List.setIfInBounds_toArray, List.set_cons_zero, List.set_cons_succ]
        refine' takeV 4 (oi := _) (d := _) (v := _) ?ti6 ?td6 (by kernel_rfl) (by kernel_rfl) (by kernel_rfl) (by kernel_rfl) (by decide) (fun _ _ _ _ _ h => h) ?tg6 ?ty6 (by assumption) ?tr6
        case ti6 => (simp only [List.getElem?_toArray, List.getElem?_cons_succ, List.getElem?_cons_zero]; rfl)
        case td6 => exact rfl
        case tg6 => exact rfl
        case ty6 => (intro w hSw; (try dsimp only at hSw); go_split_ands; go_simp; try with_reducible rfl)
        simp only [List.setIfInBounds_toArray, List.set_cons_zero, List.set_cons_succ]
        refine' takeV 5 (oi := _) (d := _) (v := _) ?ti7 ?td7 (by kernel_rfl) (by kernel_rfl) (by kernel_rfl) (by kernel_rfl) (by decide) (fun _ _ _ _ _ h => h) ?tg7 ?ty7 (by assumption) ?tr7
        case ti7 => (simp only [List.getElem?_toArray, List.getElem?_cons_succ, List.getElem?_cons_zero]; rfl)
        case td7 => exact rfl
        case tg7 => exact rfl
        case ty7 => (intro w hSw; (try dsimp only at hSw); go_split_ands; go_simp; try with_reducible rfl)
        simp only [List.setIfInBounds_toArray, List.set_cons_zero, List.set_cons_succ]
        refine' takeV 6 (oi := _) (d := _) (v := _) ?ti8 ?td8 (by kernel_rfl) (by kernel_rfl) (by kernel_rfl) (by kernel_rfl) (by decide) (fun _ _ _ _ _ h => h) ?tg8 ?ty8 (by assumption) ?tr8
        case ti8 => (simp only [List.getElem?_toArray, List.getElem?_cons_succ, List.getElem?_cons_zero]; rfl)
        case td8 => exact rfl
        case tg8 => exact rfl
        case ty8 => (intro w hSw; (try dsimp only at hSw); go_split_ands; go_simp; try with_reducible rfl)
        simp only [List.setIfInBounds_toArray, List.set_cons_zero, List.set_cons_succ]
        refine' takeV 7 (oi := _) (d := _) (v := _) ?ti9 ?td9 (by kernel_rfl) (by kernel_rfl) (by kernel_rfl) (by kernel_rfl) (by decide) (fun _ _ _ _ _ h => h) ?tg9 ?ty9 (by assumption) ?tr9
        case ti9 => (simp only [List.getElem?_toArray, List.getElem?_cons_succ, List.getElem?_cons_zero]; rfl)
        case td9 => exact rfl
        case tg9 => exact rfl
        case ty9 => (intro w hSw; (try dsimp only at hSw); go_split_ands; go_simp; try with_reducible rfl)
        simp only [List.setIfInBounds_toArray, List.set_cons_zero, List.set_cons_succ]
        refine' takeV 8 (oi := _) (d := _) (v := _) ?ti10 ?td10 (by kernel_rfl) (by kernel_rfl) (by kernel_rfl) (by kernel_rfl) (by decide) (fun _ _ _ _ _ h => h) ?tg10 ?ty10 (by assumption) ?tr10
        case ti10 => (simp only [List.getElem?_toArray, List.getElem?_cons_succ, List.getElem?_cons_zero]; rfl)
        case td10 => exact rfl
        case tg10 => exact rfl
        case ty10 => (intro w hSw; (try dsimp only at hSw); go_split_ands; go_simp; try with_reducible rfl)
        simp only [List.setIfInBounds_toArray, List.set_cons_zero, List.set_cons_succ]
        refine' takeV 9 (oi := _) (d := _) (v := _) ?ti11 ?td11 (by kernel_rfl) (by kernel_rfl) (by kernel_rfl) (by kernel_rfl) (by decide) (fun _ _ _ _ _ h => h) ?tg11 ?ty11 (by assumption) ?tr11
        case ti11 => (simp only [List.getElem?_toArray, List.getElem?_cons_succ, List.getElem?_cons_zero]; rfl)
        case td11 => exact rfl
        case tg11 => exact rfl
        case ty11 => (intro w hSw; (try dsimp only at hSw); go_split_ands; go_simp; try with_reducible rfl)
        simp only [List.setIfInBounds_toArray, List.set_cons_zero, List.set_cons_succ]
        refine' takeV 10 (oi := _) (d := _) (v := _) ?ti12 ?td12 (by kernel_rfl) (by kernel_rfl) (by kernel_rfl) (by kernel_rfl) (by decide) (fun _ _ _ _ _ h => h) ?tg12 ?ty12 (by assumption) ?tr12
        case ti12 => (simp only [List.getElem?_toArray, List.getElem?_cons_succ, List.getElem?_cons_zero]; rfl)
        case td12 => exact rfl
        case tg12 => exact rfl
        case ty12 => (intro w hSw; (try dsimp only at hSw); go_split_ands; go_simp; try with_reducible rfl)
        simp only [List.setIfInBounds_toArray, List.set_cons_zero, List.set_cons_succ]
        refine' takeV 11 (oi := _) (d := _) (v := _) ?ti13 ?td13 (by kernel_rfl) (by kernel_rfl) (by kernel_rfl) (by kernel_rfl) (by decide) (fun _ _ _ _ _ h => h) ?tg13 ?ty13 (by assumption) ?tr13
        case ti13 => (simp only [List.getElem?_toArray, List.getElem?_cons_succ, List.getElem?_cons_zero]; rfl)
        case td13 => exact rfl
        case tg13 => exact rfl
        case ty13 => (intro w hSw; (try dsimp only at hSw); go_split_ands; go_simp; try with_reducible rfl)
        simp only [List.setIfInBounds_toArray, List.set_cons_zero, List.set_cons_succ]
        refine' takeV 12 (oi := _) (d := _) (v := _) ?ti14 ?td14 (by kernel_rfl) (by kernel_rfl) (by kernel_rfl) (by kernel_rfl) (by decide) (fun _ _ _ _ _ h => h) ?tg14 ?ty14 (by assumption) ?tr14
        case ti14 => (simp only [List.getElem?_toArray, List.getElem?_cons_succ, List.getElem?_cons_zero]; rfl)
        case td14 => exact rfl
        case tg14 => exact rfl
        case ty14 => (intro w hSw; (try dsimp only at hSw); go_split_ands; go_simp; try with_reducible rfl)
        simp only [List.setIfInBounds_toArray, List.set_cons_zero, List.set_cons_succ]
        refine' takeV 13 (oi := _) (d := _) (v := _) ?ti15 ?td15 (by kernel_rfl) (by kernel_rfl) (by kernel_rfl) (by kernel_rfl) (by decide) (fun _ _ _ _ _ h => h) ?tg15 ?ty15 (by assumption) ?tr15
        case ti15 => (simp only [List.getElem?_toArray, List.getElem?_cons_succ, List.getElem?_cons_zero]; rfl)
        case td15 => exact rfl
        case tg15 => exact rfl
        case ty15 => (intro w hSw; (try dsimp only at hSw); go_split_ands; go_simp; try with_reducible rfl)
        simp only [List.setIfInBounds_toArray, List.set_cons_zero, List.set_cons_succ]
        obtain ⟨V1, hV1⟩ : ∃ V1, V1 = w3.drew := ⟨_, rfl⟩
        have hs1 : w3.heap.size ≤ V1.heap.size := by rw [hV1]; exact Nat.le_refl _
        have V1V : Hid (OwnV V1 w.heap.size (some ⟨g, 0, none⟩) (q + 1) c3 vs) := by rw [hV1]; exact HV.out
        have V1L : Hid (∀ j, j + 1 < q + 1 → ∃ A' n' c', vs[j]? = some (.slice A' n' c') ∧ Own V1 w.heap.size A' n' c' (chunk (l.take i) j) ∧ ∀ a, A' = some a → a.block < M) := by rw [hV1]; exact HLOW.out
        have V1A : Hid (Own V1 M A' n' c' (chunk (l.take i) q)) := by rw [hV1]; exact HLA.out
        have V1B : Hid (Below w.heap.size w V1) := by rw [hV1]; exact HB3.out.drew
        rw [← hV1] at hHeld ⊢
        clear hV1
        refine stepG 14 (by kernel_rfl) (by simp only [List.getElem?_toArray, List.getElem?_cons_succ, List.getElem?_cons_zero]; rfl) (fun K hK => ?_)
        go_simp
        refine hK.out _ _ ?ts16 (fun hHeld => ?_)
        case ts16 => ((try dsimp only); exact ⟨((below_new1 V1 _).cell (by dsimp only; omega)).trans hHeld.1, ((below_new1 V1 _).cell (by dsimp only; omega)).trans hHeld.2⟩)
        clear hK K
        have O2 : Hid (Own (V1.alloc (.cells #[.int .u8 (x.toNat : Int)] 5)) M A' n' c' (chunk (l.take i) q)) := V1A.out.alloc _
        have R2 : Hid (Rd (V1.alloc (.cells #[.int .u8 (x.toNat : Int)] 5)) (some ⟨V1.heap.size, 0, none⟩) 1 1 [x]) := Rd.fresh V1 [x] 1 rfl (by omega)
        have V2B : Hid (Below w.heap.size w (V1.alloc (.cells #[.int .u8 (x.toNat : Int)] 5))) := V1B.out.alloc (by omega) _
        have V2V : Hid (OwnV (V1.alloc (.cells #[.int .u8 (x.toNat : Int)] 5)) w.heap.size (some ⟨g, 0, none⟩) (q + 1) c3 vs) := V1V.out.alloc _
        obtain ⟨V2, hV2⟩ : ∃ V2, V2 = V1.alloc (.cells #[.int .u8 (x.toNat : Int)] 5) := ⟨_, rfl⟩
        have hs2 : V1.heap.size < V2.heap.size := by rw [hV2]; simp
        rw [← hV2] at hHeld O2 R2 V2B V2V ⊢
        have HV2 := Lib.hid hV2
        clear hV2
        refine stepG 15 (by kernel_rfl) (by simp only [List.getElem?_toArray, List.getElem?_cons_succ, List.getElem?_cons_zero]; rfl) (fun K hK => ?_)
        refine step_app 27 Try.underlying27 rfl (.tmp 26) (.tmp 31) rfl rfl rfl O2.out R2.out (by omega) (by omega) ?_
        intro A4 c4 w4 hown4 hg4 hb4
        refine hK.out _ _ ?ts17 (fun hHeld => ?_)
        case ts17 => ((try dsimp only); exact ⟨((V2V.out.keptO O2.out hg4).cell q _ (by have := V2V.out; exact HVQ.out)), (hb4.cell (by dsimp only; omega)).trans hHeld.2⟩)
        clear hK K
        have HVQ2 := Lib.hid (And.intro hown4 (And.intro hg4 hb4))
        obtain ⟨hHq, hHx⟩ := hHeld
        have hfr4 : w4.frozen? ⟨g, q, none⟩ = false := World.ownsRow.frozenAt (V2V.out.keptO O2.out hg4) q
        clear hown4 hg4 hb4
        refine stepG 16 (by kernel_rfl) (by simp only [List.getElem?_toArray, List.getElem?_cons_succ, List.getElem?_cons_zero]; rfl) (fun K hK => ?_)
        go_simp
        refine hK.out _ _ ?ts18 (fun hHeld => ?_)
        case ts18 => ((try dsimp only); exact ⟨hHq, hHx⟩)
        clear hK K
        refine stepGate 17 (by kernel_rfl) (by kernel_rfl) (by simp only [List.getElem?_toArray, List.getElem?_cons_succ, List.getElem?_cons_zero]; rfl) (fun K hK => ?_)
        go_simp
        refine hK.out _ _ ?_
        clear hK K
        refine doneG (by kernel_rfl) ?_ _
        go_wp2_with fail
        go_roundw
        case rel =>
          refine ⟨i + 1, q + 1, c3, some ⟨g, 0, none⟩, by omega, by have := HQ.out; omega, by go_num, rfl, ?_, ?_⟩
          · exact CutM.step (.cells #[.int .u8 (x.toNat : Int)] 5) V1V.out hHM (by omega) V1L.out V1A.out HQ.out (by rw [← HL.out]; exact hlt) HX.out HVQ2.out.1 (by have := HVQ2.out.2.1; rw [HV2.out] at this; exact this)
          · exact (V2B.out.trans (HVQ2.out.2.2.mono hHM)).setCell hgH _
        case measure => first | (simp [intOf]; done) | (simp [intOf]; omega)
      · have hrb : (((i : Int) % 208) == 0) = false := by rw [beq_eq_false_iff_ne]; omega
        obtain rfl : k = q + 1 := by omega
        have HQ := Lib.hid hq
        have HM3 : Hid (CutM wr w.heap.size A2 (q + 1) c2 l i) := HM.out
        have HB3 := Lib.hid HBel.out
        clear hq hr hk hrem HM HBel
        go_upto_region 7 with fail
        obtain ⟨A3, rfl⟩ : ∃ A3 : Option Addr, A3 = A2 := ⟨_, rfl⟩
        obtain ⟨c3, rfl⟩ : ∃ c3 : Nat, c3 = c2 := ⟨_, rfl⟩
        obtain ⟨w3, rfl⟩ : ∃ w3 : World, w3 = wr := ⟨_, rfl⟩
        obtain ⟨vs, M, hv, hHM, hMw, hlow, hlast⟩ := HM3.out
        obtain ⟨A', n', c', hvq, hown'⟩ := hlast q rfl
        obtain ⟨g, rfl, hgH⟩ := hv.split (by omega)
        have hcellq : w3.cell? ⟨g, q, none⟩ = some (.slice A' n' c') := hv.cell q _ hvq
        have hfrq : w3.frozen? ⟨g, q, none⟩ = false := World.ownsRow.frozenAt hv q
        have hcellx : w3.cell? ⟨b, o + i, none⟩ = some (.int .u8 (x.toNat : Int)) := (HB3.out.cell hlb).trans HX0.out
        have hn' : n' = i - 208 * q := by
          rw [hown'.len, HQ.out]; exact chunk_len l i (by rw [← HL.out]; omega)
        have hn2 : n' ≤ 1024 := by omega
        have hcq := hv.cap.1
        have hcm := hv.cap.2
        unfold maxLen at hcm
        have hs3 := HB3.out.size
        have HV := Lib.hid hv
        have HLOW := Lib.hid hlow
        have HLA := Lib.hid hown'
        have HVQ := Lib.hid hvq
        have HFQ := Lib.hid hfrq
        have gw : g < w3.heap.size := World.block_lt_of_cell? w3 _ hcellq
        have bw : b < w3.heap.size := World.block_lt_of_cell? w3 _ hcellx
        have hq1 : (0 : Int) ≤ (q : Int) := by omega
        have hq2 : (q : Int) < (q : Int) + 1 := by omega
        have hwq : IntKind.i64.wrap (q : Int) = (q : Int) := IntWalk.i64_in _ (by omega)
        have hiq : (i : Int) < (n : Int) := by omega
        clear hv hlow hlast hown' hvq hn' hfrq HM3
        refine region_gate 17 (fun w' => w'.cell? ⟨g, q, none⟩ = some (.slice A' n' c') ∧ w'.cell? ⟨b, o + i, none⟩ = some (.int .u8 (x.toNat : Int))) (by kernel_rfl) ?th19 (fun hHeld => ?tk19)
        case th19 => ((try dsimp only); exact ⟨hcellq, hcellx⟩)
        refine' takeV 0 (oi := _) (d := _) (v := _) ?ti20 ?td20 (by kernel_rfl) (by kernel_rfl) (by kernel_rfl) (by kernel_rfl) (by decide) (fun _ _ _ _ _ h => h) ?tg20 ?ty20 (by assumption) ?tr20
        case ti20 => (simp only [List.getElem?_toArray, List.getElem?_cons_succ, List.getElem?_cons_zero]; rfl)
        case td20 => exact rfl
        case tg20 => exact rfl
        case ty20 => (intro w hSw; (try dsimp only at hSw); go_split_ands; go_simp; try with_reducible rfl)
        simp only [List.setIfInBounds_toArray, List.set_cons_zero, List.set_cons_succ]
        refine' takeV 1 (oi := _) (d := _) (v := _) ?ti21 ?td21 (by kernel_rfl) (by kernel_rfl) (by kernel_rfl) (by kernel_rfl) (by decide) (fun _ _ _ _ _ h => h) ?tg21 ?ty21 (by assumption) ?tr21
        case ti21 => (simp only [List.getElem?_toArray, List.getElem?_cons_succ, List.getElem?_cons_zero]; rfl)
        case td21 => exact rfl
        case tg21 => exact rfl
        case ty21 => (intro w hSw; (try dsimp only at hSw); go_split_ands; go_simp; try with_reducible rfl)
        simp only [List.setIfInBounds_toArray, List.set_cons_zero, List.set_cons_succ]
        refine' takeV 2 (oi := _) (d := _) (v := _) ?ti22 ?td22 (by kernel_rfl) (by kernel_rfl) (by kernel_rfl) (by kernel_rfl) (by decide) (fun _ _ _ _ _ h => h) ?tg22 ?ty22 (by assumption) ?tr22
        case ti22 => (simp only [List.getElem?_toArray, List.getElem?_cons_succ, List.getElem?_cons_zero]; rfl)
        case td22 => exact rfl
        case tg22 => exact rfl
        case ty22 => (intro w hSw; (try dsimp only at hSw); go_split_ands; go_simp; try with_reducible rfl)
        simp only [List.setIfInBounds_toArray, List.set_cons_zero, List.set_cons_succ]
        refine' takeV 3 (oi := _) (d := _) (v := _) ?ti23 ?td23 (by kernel_rfl) (by kernel_rfl) (by kernel_rfl) (by kernel_rfl) (by decide) (fun _ _ _ _ _ h => h) ?tg23 ?ty23 (by assumption) ?tr23
        case ti23 => (simp only [List.getElem?_toArray, List.getElem?_cons_succ, List.getElem?_cons_zero]; rfl)
        case td23 => exact rfl
        case tg23 => exact rfl
        case ty23 => (intro w hSw; (try dsimp only at hSw); go_split_ands; go_simp; try with_reducible rfl)
        simp only [List.setIfInBounds_toArray, List.set_cons_zero, List.set_cons_succ]
        refine' takeV 4 (oi := _) (d := _) (v := _) ?ti24 ?td24 (by kernel_rfl) (by kernel_rfl) (by kernel_rfl) (by kernel_rfl) (by decide) (fun _ _ _ _ _ h => h) ?tg24 ?ty24 (by assumption) ?tr24
        case ti24 => (simp only [List.getElem?_toArray, List.getElem?_cons_succ, List.getElem?_cons_zero]; rfl)
        case td24 => exact rfl
        case tg24 => exact rfl
        case ty24 => (intro w hSw; (try dsimp only at hSw); go_split_ands; go_simp; try with_reducible rfl)
        simp only [List.setIfInBounds_toArray, List.set_cons_zero, List.set_cons_succ]
        refine' takeV 5 (oi := _) (d := _) (v := _) ?ti25 ?td25 (by kernel_rfl) (by kernel_rfl) (by kernel_rfl) (by kernel_rfl) (by decide) (fun _ _ _ _ _ h => h) ?tg25 ?ty25 (by assumption) ?tr25
        case ti25 => (simp only [List.getElem?_toArray, List.getElem?_cons_succ, List.getElem?_cons_zero]; rfl)
        case td25 => exact rfl
        case tg25 => exact rfl
        case ty25 => (intro w hSw; (try dsimp only at hSw); go_split_ands; go_simp; try with_reducible rfl)
        simp only [List.setIfInBounds_toArray, List.set_cons_zero, List.set_cons_succ]
        refine' takeV 6 (oi := _) (d := _) (v := _) ?ti26 ?td26 (by kernel_rfl) (by kernel_rfl) (by kernel_rfl) (by kernel_rfl) (by decide) (fun _ _ _ _ _ h => h) ?tg26 ?ty26 (by assumption) ?tr26
        case ti26 => (simp only [List.getElem?_toArray, List.getElem?_cons_succ, List.getElem?_cons_zero]; rfl)
        case td26 => exact rfl
        case tg26 => exact rfl
        case ty26 => (intro w hSw; (try dsimp only at hSw); go_split_ands; go_simp; try with_reducible rfl)
        simp only [List.setIfInBounds_toArray, List.set_cons_zero, List.set_cons_succ]
        refine' takeV 7 (oi := _) (d := _) (v := _) ?ti27 ?td27 (by kernel_rfl) (by kernel_rfl) (by kernel_rfl) (by kernel_rfl) (by decide) (fun _ _ _ _ _ h => h) ?tg27 ?ty27 (by assumption) ?tr27
        case ti27 => (simp only [List.getElem?_toArray, List.getElem?_cons_succ, List.getElem?_cons_zero]; rfl)
        case td27 => exact rfl
        case tg27 => exact rfl
        case ty27 => (intro w hSw; (try dsimp only at hSw); go_split_ands; go_simp; try with_reducible rfl)
        simp only [List.setIfInBounds_toArray, List.set_cons_zero, List.set_cons_succ]
        refine' takeV 8 (oi := _) (d := _) (v := _) ?ti28 ?td28 (by kernel_rfl) (by kernel_rfl) (by kernel_rfl) (by kernel_rfl) (by decide) (fun _ _ _ _ _ h => h) ?tg28 ?ty28 (by assumption) ?tr28
        case ti28 => (simp only [List.getElem?_toArray, List.getElem?_cons_succ, List.getElem?_cons_zero]; rfl)
        case td28 => exact rfl
        case tg28 => exact rfl
        case ty28 => (intro w hSw; (try dsimp only at hSw); go_split_ands; go_simp; try with_reducible rfl)
        simp only [List.setIfInBounds_toArray, List.set_cons_zero, List.set_cons_succ]
        refine' takeV 9 (oi := _) (d := _) (v := _) ?ti29 ?td29 (by kernel_rfl) (by kernel_rfl) (by kernel_rfl) (by kernel_rfl) (by decide) (fun _ _ _ _ _ h => h) ?tg29 ?ty29 (by assumption) ?tr29
        case ti29 => (simp only [List.getElem?_toArray, List.getElem?_cons_succ, List.getElem?_cons_zero]; rfl)
        case td29 => exact rfl
        case tg29 => exact rfl
        case ty29 => (intro w hSw; (try dsimp only at hSw); go_split_ands; go_simp; try with_reducible rfl)
        simp only [List.setIfInBounds_toArray, List.set_cons_zero, List.set_cons_succ]
        refine' takeV 10 (oi := _) (d := _) (v := _) ?ti30 ?td30 (by kernel_rfl) (by kernel_rfl) (by kernel_rfl) (by kernel_rfl) (by decide) (fun _ _ _ _ _ h => h) ?tg30 ?ty30 (by assumption) ?tr30
        case ti30 => (simp only [List.getElem?_toArray, List.getElem?_cons_succ, List.getElem?_cons_zero]; rfl)
        case td30 => exact rfl
        case tg30 => exact rfl
        case ty30 => (intro w hSw; (try dsimp only at hSw); go_split_ands; go_simp; try with_reducible rfl)
        simp only [List.setIfInBounds_toArray, List.set_cons_zero, List.set_cons_succ]
        refine' takeV 11 (oi := _) (d := _) (v := _) ?ti31 ?td31 (by kernel_rfl) (by kernel_rfl) (by kernel_rfl) (by kernel_rfl) (by decide) (fun _ _ _ _ _ h => h) ?tg31 ?ty31 (by assumption) ?tr31
        case ti31 => (simp only [List.getElem?_toArray, List.getElem?_cons_succ, List.getElem?_cons_zero]; rfl)
        case td31 => exact rfl
        case tg31 => exact rfl
        case ty31 => (intro w hSw; (try dsimp only at hSw); go_split_ands; go_simp; try with_reducible rfl)
        simp only [List.setIfInBounds_toArray, List.set_cons_zero, List.set_cons_succ]
        refine' takeV 12 (oi := _) (d := _) (v := _) ?ti32 ?td32 (by kernel_rfl) (by kernel_rfl) (by kernel_rfl) (by kernel_rfl) (by decide) (fun _ _ _ _ _ h => h) ?tg32 ?ty32 (by assumption) ?tr32
        case ti32 => (simp only [List.getElem?_toArray, List.getElem?_cons_succ, List.getElem?_cons_zero]; rfl)
        case td32 => exact rfl
        case tg32 => exact rfl
        case ty32 => (intro w hSw; (try dsimp only at hSw); go_split_ands; go_simp; try with_reducible rfl)
        simp only [List.setIfInBounds_toArray, List.set_cons_zero, List.set_cons_succ]
        refine' takeV 13 (oi := _) (d := _) (v := _) ?ti33 ?td33 (by kernel_rfl) (by kernel_rfl) (by kernel_rfl) (by kernel_rfl) (by decide) (fun _ _ _ _ _ h => h) ?tg33 ?ty33 (by assumption) ?tr33
        case ti33 => (simp only [List.getElem?_toArray, List.getElem?_cons_succ, List.getElem?_cons_zero]; rfl)
        case td33 => exact rfl
        case tg33 => exact rfl
        case ty33 => (intro w hSw; (try dsimp only at hSw); go_split_ands; go_simp; try with_reducible rfl)
        simp only [List.setIfInBounds_toArray, List.set_cons_zero, List.set_cons_succ]
        obtain ⟨V1, hV1⟩ : ∃ V1, V1 = w3.drew := ⟨_, rfl⟩
        have hs1 : w3.heap.size ≤ V1.heap.size := by rw [hV1]; exact Nat.le_refl _
        have V1V : Hid (OwnV V1 w.heap.size (some ⟨g, 0, none⟩) (q + 1) c3 vs) := by rw [hV1]; exact HV.out
        have V1L : Hid (∀ j, j + 1 < q + 1 → ∃ A' n' c', vs[j]? = some (.slice A' n' c') ∧ Own V1 w.heap.size A' n' c' (chunk (l.take i) j) ∧ ∀ a, A' = some a → a.block < M) := by rw [hV1]; exact HLOW.out
        have V1A : Hid (Own V1 M A' n' c' (chunk (l.take i) q)) := by rw [hV1]; exact HLA.out
        have V1B : Hid (Below w.heap.size w V1) := by rw [hV1]; exact HB3.out.drew
        rw [← hV1] at hHeld ⊢
        clear hV1
        refine stepG 14 (by kernel_rfl) (by simp only [List.getElem?_toArray, List.getElem?_cons_succ, List.getElem?_cons_zero]; rfl) (fun K hK => ?_)
        go_simp
        refine hK.out _ _ ?ts34 (fun hHeld => ?_)
        case ts34 => ((try dsimp only); exact ⟨((below_new1 V1 _).cell (by dsimp only; omega)).trans hHeld.1, ((below_new1 V1 _).cell (by dsimp only; omega)).trans hHeld.2⟩)
        clear hK K
        have O2 : Hid (Own (V1.alloc (.cells #[.int .u8 (x.toNat : Int)] 5)) M A' n' c' (chunk (l.take i) q)) := V1A.out.alloc _
        have R2 : Hid (Rd (V1.alloc (.cells #[.int .u8 (x.toNat : Int)] 5)) (some ⟨V1.heap.size, 0, none⟩) 1 1 [x]) := Rd.fresh V1 [x] 1 rfl (by omega)
        have V2B : Hid (Below w.heap.size w (V1.alloc (.cells #[.int .u8 (x.toNat : Int)] 5))) := V1B.out.alloc (by omega) _
        have V2V : Hid (OwnV (V1.alloc (.cells #[.int .u8 (x.toNat : Int)] 5)) w.heap.size (some ⟨g, 0, none⟩) (q + 1) c3 vs) := V1V.out.alloc _
        obtain ⟨V2, hV2⟩ : ∃ V2, V2 = V1.alloc (.cells #[.int .u8 (x.toNat : Int)] 5) := ⟨_, rfl⟩
        have hs2 : V1.heap.size < V2.heap.size := by rw [hV2]; simp
        rw [← hV2] at hHeld O2 R2 V2B V2V ⊢
        have HV2 := Lib.hid hV2
        clear hV2
        refine stepG 15 (by kernel_rfl) (by simp only [List.getElem?_toArray, List.getElem?_cons_succ, List.getElem?_cons_zero]; rfl) (fun K hK => ?_)
        refine step_app 27 Try.underlying27 rfl (.tmp 26) (.tmp 31) rfl rfl rfl O2.out R2.out (by omega) (by omega) ?_
        intro A4 c4 w4 hown4 hg4 hb4
        refine hK.out _ _ ?ts35 (fun hHeld => ?_)
        case ts35 => ((try dsimp only); exact ⟨((V2V.out.keptO O2.out hg4).cell q _ (by have := V2V.out; exact HVQ.out)), (hb4.cell (by dsimp only; omega)).trans hHeld.2⟩)
        clear hK K
        have HVQ2 := Lib.hid (And.intro hown4 (And.intro hg4 hb4))
        obtain ⟨hHq, hHx⟩ := hHeld
        have hfr4 : w4.frozen? ⟨g, q, none⟩ = false := World.ownsRow.frozenAt (V2V.out.keptO O2.out hg4) q
        clear hown4 hg4 hb4
        refine stepG 16 (by kernel_rfl) (by simp only [List.getElem?_toArray, List.getElem?_cons_succ, List.getElem?_cons_zero]; rfl) (fun K hK => ?_)
        go_simp
        refine hK.out _ _ ?ts36 (fun hHeld => ?_)
        case ts36 => ((try dsimp only); exact ⟨hHq, hHx⟩)
        clear hK K
        refine stepGate 17 (by kernel_rfl) (by kernel_rfl) (by simp only [List.getElem?_toArray, List.getElem?_cons_succ, List.getElem?_cons_zero]; rfl) (fun K hK => ?_)
        go_simp
        refine hK.out _ _ ?_
        clear hK K
        refine doneG (by kernel_rfl) ?_ _
        go_wp2_with fail
        go_roundw
        case rel =>
          refine ⟨i + 1, q + 1, c3, some ⟨g, 0, none⟩, by omega, by have := HQ.out; omega, by go_num, rfl, ?_, ?_⟩
          · exact CutM.step (.cells #[.int .u8 (x.toNat : Int)] 5) V1V.out hHM (by omega) V1L.out V1A.out HQ.out (by rw [← HL.out]; exact hlt) HX.out HVQ2.out.1 (by have := HVQ2.out.2.1; rw [HV2.out] at this; exact this)
          · exact (V2B.out.trans (HVQ2.out.2.2.mono hHM)).setCell hgH _
        case measure => first | (simp [intOf]; done) | (simp [intOf]; omega)
    · obtain rfl : i = n := by omega
      subst hk
      clear hi
      go_wp2_with fail
      go_ret
      exact ⟨A2, c2, rfl, HM.out, HBel.out⟩
end Go.Proofs.Ytbfcpapibenndaa

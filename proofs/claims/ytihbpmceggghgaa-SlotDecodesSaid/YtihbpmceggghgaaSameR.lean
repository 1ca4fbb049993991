/- Contracts: whether two nodes are the same, as the reference has it. -/
import Derived.Test.YtihbpmceggghgaaHeavy
import Derived.Test.YtihbpmceggghgaaRegS
set_option linter.unusedVariables false
set_option linter.unusedSimpArgs false
namespace Go.Proofs.Ytihbpmceggghgaa
open Go.RowKit

def entEq (x y : Ent) : Bool := x.key == y.key && (x.val == y.val && (x.len == y.len && (x.chain == y.chain && x.child == y.child)))
def sTo (es es' : List Ent) : Nat → Bool
  | 0 => true
  | i + 1 => sTo es es' i && entEq (es.getD i ent0) (es'.getD i ent0)
def sameN (k l : Nat) (es : List Ent) (k' l' : Nat) (es' : List Ent) : Bool := k == k' && (l == l' && (es.length == es'.length && sTo es es' es.length))
theorem entEq_refl (x : Ent) : entEq x x = true := by simp [entEq]
theorem sTo_refl (es : List Ent) : ∀ i, sTo es es i = true
  | 0 => rfl
  | i + 1 => by rw [sTo, sTo_refl es i, entEq_refl]; rfl
theorem sameN_refl (k l : Nat) (es : List Ent) : sameN k l es k l es = true := by simp [sameN, sTo_refl]
theorem sTo_bad {es es' : List Ent} {i : Nat} (h : entEq (es.getD i ent0) (es'.getD i ent0) = false) : ∀ m, i < m → sTo es es' m = false
  | 0, hm => by omega
  | m + 1, hm => by
    rw [sTo]
    by_cases e : i = m
    · rw [← e, h, Bool.and_false]
    · rw [sTo_bad h m (by omega), Bool.false_and]
theorem sameN_bad {k l : Nat} {es : List Ent} {k' l' : Nat} {es' : List Ent} (h : k ≠ k' ∨ l ≠ l' ∨ es.length ≠ es'.length) : sameN k l es k' l' es' = false := by
  unfold sameN
  rcases h with h | h | h
  · rw [beq_eq_false_iff_ne.2 h]; rfl
  · rw [beq_eq_false_iff_ne.2 h]; simp
  · rw [beq_eq_false_iff_ne.2 h]; simp
theorem sameN_go {k l : Nat} {es : List Ent} {es' : List Ent} (h : es.length = es'.length) : sameN k l es k l es' = sTo es es' es.length := by simp [sameN, h]
def zE : List Value := [.slice none 0 0, .slice none 0 0, .int .i64 0, .int .u32 0, .int .u64 0, .int .u16 0, .int .u32 0, .int .u64 0, .int .u16 0]
theorem infoE : (Try.prog.info? 49).map (·.size) = some 9 := by kernel_rfl
theorem enC_one (A : Option Addr) (n c : Nat) (A' : Option Addr) (n' c' : Nat) (L : Int) (r s : Rf) : ∀ v ∈ enC A n c A' n' c' L r s, v.oneCell' = true := by
  intro v hv
  simp only [enC, List.mem_cons, List.not_mem_nil, or_false] at hv
  rcases hv with rfl | rfl | rfl | rfl | rfl | rfl | rfl | rfl | rfl <;> rfl
theorem below_new (w : World) (o : Obj) : Below w.heap.size w (w.alloc o) := (Below.refl _ _).alloc (Nat.le_refl _) _
/-- What the loops that compare know at place i. -/
theorem RdL.pair {w : World} {A : Option Addr} {n c : Nat} {es : List Ent} (h : RdL w A n c es) (i : Nat) (hi : i < n) :
    ∃ b o A1 n1 c1 A2 n2 c2 L r s K V, A = some ⟨b, o, none⟩ ∧ EAt w b (o + i * 9) A1 n1 c1 A2 n2 c2 L r s ∧ Rd w A1 n1 c1 K ∧ Rd w A2 n2 c2 V ∧ es.getD i ent0 = ⟨K, V, L, r, s⟩ := by
  obtain ⟨b, o, A1, n1, c1, A2, n2, c2, e, h1, h2, h3⟩ := h.ent i hi _ rfl
  exact ⟨b, o, A1, n1, c1, A2, n2, c2, _, _, _, _, _, e, h1, h2, h3, rfl⟩

attribute [local go_sem ↓] eqRf
set_option maxRecDepth 100000 in
set_option maxHeartbeats 6400000 in
theorem refsame_any (k l : Nat) (A : Option Addr) (n c : Nat) (es : List Ent) (k' l' : Nat) (A' : Option Addr) (n' c' : Nat) (es' : List Ent) (w : World) (h : RdL w A n c es) (h' : RdL w A' n' c' es') (hk : k < 256) (hl : l < 256) (hk' : k' < 256) (hl' : l' < 256) :
    Calls Try.prog 15 #[NdV k l A n c, NdV k' l' A' n' c'] w fun e w' => e = .returned (.bool (sameN k l es k' l' es')) ∧ Below w.heap.size w w' := by
  have hcap := h.cap
  have hmax := h.max
  have hcap' := h'.cap
  have hmax' := h'.max
  unfold maxLen at hmax hmax'
  have HLn := Lib.hid h.len
  have HLn' := Lib.hid h'.len
  obtain ⟨W, hW⟩ : ∃ W, W = (w.alloc (.cells #[.int .u8 (k : Int), .int .u8 (l : Int), .slice A n c] 24)).alloc (.cells #[.int .u8 (k' : Int), .int .u8 (l' : Int), .slice A' n' c'] 24) := ⟨_, rfl⟩
  have HWB : Hid (Below w.heap.size w W) := by rw [hW]; exact (below_new _ _).alloc (by simp) _
  have KN : Hid (Blk W w.heap.size 24 (ndA k l A n c)) := by rw [hW]; exact (Blk.new _ _ _).alloc _
  have KN' : Hid (Blk W (w.heap.size + 1) 24 (ndA k' l' A' n' c')) := by rw [hW]; exact Blk.new' _ _ _ _ (by simp)
  have HR := Lib.hid (h.below HWB.out)
  have HR' := Lib.hid (h'.below HWB.out)
  have HW := Lib.hid hW
  have hWs : w.heap.size < W.heap.size := KN.out.lt
  clear h h' hW
  by_cases hkk : k = k'
  · by_cases hll : l = l'
    · by_cases hnn : n = n'
      · subst hkk hll hnn
        have HE := Lib.hid (sameN_go (k := k) (l := l) (es := es) (es' := es') (by rw [← HLn.out, ← HLn'.out]))
        rw [HE.out]
        go_enter Try.func15, Try.ntmps15
        go_wp2_with fail
        rw [← HW.out]
        go_loopw [5] (fun z wr => ∃ i : Nat, i ≤ n ∧ z = .int .i64 (i : Int) ∧ sTo es es' i = true ∧ Below W.heap.size W wr) (fun z _ => n - (intOf z).toNat)
        case atStart => exact ⟨0, Nat.zero_le _, rfl, rfl, Below.refl _ _⟩
        case round =>
          obtain ⟨i, hi, rfl, hto, hbel⟩ := hrel
          have HTO := Lib.hid hto
          have HBE := Lib.hid hbel
          have hbs := hbel.size
          have d2 : wr.cell? ⟨w.heap.size, 2, none⟩ = some (.slice A n c) := (KN.out.below hbel KN.out.lt).cell 2
          clear hto hbel
          by_cases hlt : i < n
          · obtain ⟨b, o, A1, n1, c1, A2, n2, c2, L, r, s, K, V, rfl, hat, hrk, hrv, hent⟩ := HR.out.pair i hlt
            obtain ⟨b', o', A1', n1', c1', A2', n2', c2', L', r', s', K', V', rfl, hat', hrk', hrv', hent'⟩ := HR'.out.pair i hlt
            have TR : Hid (∀ w', Below W.heap.size W w' → (w'.cell? ⟨w.heap.size, 0, none⟩ = some (.int .u8 (k : Int)) ∧ w'.cell? ⟨w.heap.size, 2, none⟩ = some (.slice (some ⟨b, o, none⟩) n c) ∧ w'.cell? ⟨b, o + i * 9, none⟩ = some (.slice A1 n1 c1) ∧ w'.cell? ⟨b, o + i * 9 + 1, none⟩ = some (.slice A2 n2 c2) ∧ w'.cell? ⟨b, o + i * 9 + 2, none⟩ = some (.int .i64 L) ∧ w'.cell? ⟨b, o + i * 9 + 3, none⟩ = some (.int .u32 (r.1 : Int)) ∧ w'.cell? ⟨b, o + i * 9 + 4, none⟩ = some (.int .u64 (r.2.1 : Int)) ∧ w'.cell? ⟨b, o + i * 9 + 5, none⟩ = some (.int .u16 (r.2.2 : Int)) ∧ w'.cell? ⟨b, o + i * 9 + 6, none⟩ = some (.int .u32 (s.1 : Int)) ∧ w'.cell? ⟨b, o + i * 9 + 7, none⟩ = some (.int .u64 (s.2.1 : Int)) ∧ w'.cell? ⟨b, o + i * 9 + 8, none⟩ = some (.int .u16 (s.2.2 : Int)) ∧ Below W.heap.size W w') ∧ (w'.cell? ⟨w.heap.size + 1, 0, none⟩ = some (.int .u8 (k : Int)) ∧ w'.cell? ⟨w.heap.size + 1, 2, none⟩ = some (.slice (some ⟨b', o', none⟩) n c') ∧ w'.cell? ⟨b', o' + i * 9, none⟩ = some (.slice A1' n1' c1') ∧ w'.cell? ⟨b', o' + i * 9 + 1, none⟩ = some (.slice A2' n2' c2') ∧ w'.cell? ⟨b', o' + i * 9 + 2, none⟩ = some (.int .i64 L') ∧ w'.cell? ⟨b', o' + i * 9 + 3, none⟩ = some (.int .u32 (r'.1 : Int)) ∧ w'.cell? ⟨b', o' + i * 9 + 4, none⟩ = some (.int .u64 (r'.2.1 : Int)) ∧ w'.cell? ⟨b', o' + i * 9 + 5, none⟩ = some (.int .u16 (r'.2.2 : Int)) ∧ w'.cell? ⟨b', o' + i * 9 + 6, none⟩ = some (.int .u32 (s'.1 : Int)) ∧ w'.cell? ⟨b', o' + i * 9 + 7, none⟩ = some (.int .u64 (s'.2.1 : Int)) ∧ w'.cell? ⟨b', o' + i * 9 + 8, none⟩ = some (.int .u16 (s'.2.2 : Int)) ∧ Below W.heap.size W w')) := fun wx hb => ⟨here_all KN.out hat hb, here_all KN'.out hat' hb⟩
            have HEN := Lib.hid hent
            have HEN' := Lib.hid hent'
            have HRK := Lib.hid hrk
            have HRV := Lib.hid hrv
            have HRK' := Lib.hid hrk'
            have HRV' := Lib.hid hrv'
            have i1 : (0 : Int) ≤ (i : Int) := by omega
            have i2 : (i : Int) < (n : Int) := by omega
            obtain ⟨z, HZ⟩ : ∃ z, Hid (z = zE) := ⟨_, rfl⟩
            have hz2 : ∀ W : World, (zeroValue 49).run Try.prog W = .ok (.agg z.toArray) W := fun W => by rw [HZ.out]; kernel_rfl
            have lz : Hid (z.length = 9) := by show _ = _; rw [HZ.out]; rfl
            clear hat hat' hrk hrv hrk' hrv' hent hent'
            go_upto_region 6 with fail
            clear d2
            go_cut [6, 7] (fun s6 s7 wx => ∃ X X' : Nat, s6 = .pointer (some ⟨X, 0, none⟩) ∧ s7 = .pointer (some ⟨X', 0, none⟩) ∧ Blk wx X 49 (enA A1 n1 c1 A2 n2 c2 L r s) ∧ Blk wx X' 49 (enA A1' n1' c1' A2' n2' c2' L' r' s') ∧ Below W.heap.size W wx)
            case first =>
              refine region_gate 14 (fun w' => (w'.cell? ⟨w.heap.size, 0, none⟩ = some (.int .u8 (k : Int)) ∧ w'.cell? ⟨w.heap.size, 2, none⟩ = some (.slice (some ⟨b, o, none⟩) n c) ∧ w'.cell? ⟨b, o + i * 9, none⟩ = some (.slice A1 n1 c1) ∧ w'.cell? ⟨b, o + i * 9 + 1, none⟩ = some (.slice A2 n2 c2) ∧ w'.cell? ⟨b, o + i * 9 + 2, none⟩ = some (.int .i64 L) ∧ w'.cell? ⟨b, o + i * 9 + 3, none⟩ = some (.int .u32 (r.1 : Int)) ∧ w'.cell? ⟨b, o + i * 9 + 4, none⟩ = some (.int .u64 (r.2.1 : Int)) ∧ w'.cell? ⟨b, o + i * 9 + 5, none⟩ = some (.int .u16 (r.2.2 : Int)) ∧ w'.cell? ⟨b, o + i * 9 + 6, none⟩ = some (.int .u32 (s.1 : Int)) ∧ w'.cell? ⟨b, o + i * 9 + 7, none⟩ = some (.int .u64 (s.2.1 : Int)) ∧ w'.cell? ⟨b, o + i * 9 + 8, none⟩ = some (.int .u16 (s.2.2 : Int)) ∧ Below W.heap.size W w') ∧ (w'.cell? ⟨w.heap.size + 1, 0, none⟩ = some (.int .u8 (k : Int)) ∧ w'.cell? ⟨w.heap.size + 1, 2, none⟩ = some (.slice (some ⟨b', o', none⟩) n c') ∧ w'.cell? ⟨b', o' + i * 9, none⟩ = some (.slice A1' n1' c1') ∧ w'.cell? ⟨b', o' + i * 9 + 1, none⟩ = some (.slice A2' n2' c2') ∧ w'.cell? ⟨b', o' + i * 9 + 2, none⟩ = some (.int .i64 L') ∧ w'.cell? ⟨b', o' + i * 9 + 3, none⟩ = some (.int .u32 (r'.1 : Int)) ∧ w'.cell? ⟨b', o' + i * 9 + 4, none⟩ = some (.int .u64 (r'.2.1 : Int)) ∧ w'.cell? ⟨b', o' + i * 9 + 5, none⟩ = some (.int .u16 (r'.2.2 : Int)) ∧ w'.cell? ⟨b', o' + i * 9 + 6, none⟩ = some (.int .u32 (s'.1 : Int)) ∧ w'.cell? ⟨b', o' + i * 9 + 7, none⟩ = some (.int .u64 (s'.2.1 : Int)) ∧ w'.cell? ⟨b', o' + i * 9 + 8, none⟩ = some (.int .u16 (s'.2.2 : Int)) ∧ Below W.heap.size W w')) (by kernel_rfl) ?th1 (fun hHeld => ?tk1)
              case th1 => ((try dsimp only); exact TR.out _ HBE.out.drew)
              refine' takeV 0 (oi := _) (d := _) (v := _) ?ti2 ?td2 (by kernel_rfl) (by kernel_rfl) (by kernel_rfl) (by kernel_rfl) (by decide) (fun _ _ _ _ _ h => h) ?tg2 ?ty2 (by assumption) ?tr2
              case ti2 => (simp only [List.getElem?_toArray, List.getElem?_cons_succ, List.getElem?_cons_zero]; rfl)
              case td2 => exact rfl
              case tg2 => exact rfl
              case ty2 => (intro w hSw; (try dsimp only at hSw); go_split_ands; go_simp; try with_reducible rfl)
              simp only [List.setIfInBounds_toArray, List.set_cons_zero, List.set_cons_succ]
              refine' takeV 1 (oi := _) (d := _) (v := _) ?ti3 ?td3 (by kernel_rfl) (by kernel_rfl) (by kernel_rfl) (by kernel_rfl) (by decide) (fun _ _ _ _ _ h => h) ?tg3 ?ty3 (by assumption) ?tr3
              case ti3 => (simp only [List.getElem?_toArray, List.getElem?_cons_succ, List.getElem?_cons_zero]; rfl)
              case td3 => exact rfl
              case tg3 => exact rfl
              case ty3 => (intro w hSw; (try dsimp only at hSw); go_split_ands; go_simp; try with_reducible rfl)
              simp only [List.setIfInBounds_toArray, List.set_cons_zero, List.set_cons_succ]
              refine' takeV 2 (oi := _) (d := _) (v := _) ?ti4 ?td4 (by kernel_rfl) (by kernel_rfl) (by kernel_rfl) (by kernel_rfl) (by decide) (fun _ _ _ _ _ h => h) ?tg4 ?ty4 (by assumption) ?tr4
              case ti4 => (simp only [List.getElem?_toArray, List.getElem?_cons_succ, List.getElem?_cons_zero]; rfl)
              case td4 => exact rfl
              case tg4 => exact rfl
              case ty4 => (intro w hSw; (try dsimp only at hSw); go_split_ands; go_simp; try with_reducible rfl)
              simp only [List.setIfInBounds_toArray, List.set_cons_zero, List.set_cons_succ]
              refine' takeV 3 (oi := _) (d := _) (v := _) ?ti5 ?td5 (by kernel_rfl) (by kernel_rfl) (by kernel_rfl) (by kernel_rfl) (by decide) (fun _ _ _ _ _ h => h) ?tg5 ?ty5 (by assumption) ?tr5
              case ti5 => (simp only [List.getElem?_toArray, List.getElem?_cons_succ, List.getElem?_cons_zero]; rfl)
              case td5 => exact rfl
              case tg5 => exact rfl
              case ty5 => (intro w hSw; (try dsimp only at hSw); go_split_ands; go_simp; try with_reducible rfl)
              simp only [List.setIfInBounds_toArray, List.set_cons_zero, List.set_cons_succ]
              refine' takeV 4 (oi := _) (d := _) (v := _) ?ti6 ?td6 (by kernel_rfl) (by kernel_rfl) (by kernel_rfl) (by kernel_rfl) (by decide) (fun _ _ _ _ _ h => h) ?tg6 ?ty6 (by assumption) ?tr6
              case ti6 => (simp only [List.getElem?_toArray, List.getElem?_cons_succ, List.getElem?_cons_zero]; rfl)
              case td6 => exact rfl
              case tg6 => exact rfl
              case ty6 => (intro w hSw; (try dsimp only at hSw); go_split_ands; go_simp; try with_reducible rfl)
              simp only [List.setIfInBounds_toArray, List.set_cons_zero, List.set_cons_succ]
              refine' takeV 5 (oi := _) (d := _) (v := _) ?ti7 ?td7 (by kernel_rfl) (by kernel_rfl) (by kernel_rfl) (by kernel_rfl) (by decide) (fun _ _ _ _ _ h => h) ?tg7 ?ty7 (by assumption) ?tr7
              case ti7 => (simp only [List.getElem?_toArray, List.getElem?_cons_succ, List.getElem?_cons_zero]; rfl)
              case td7 => exact rfl
              case tg7 => exact rfl
              case ty7 => (intro w hSw; (try dsimp only at hSw); go_split_ands; go_simp; try with_reducible rfl)
              simp only [List.setIfInBounds_toArray, List.set_cons_zero, List.set_cons_succ]
              refine' takeV 6 (oi := _) (d := _) (v := _) ?ti8 ?td8 (by kernel_rfl) (by kernel_rfl) (by kernel_rfl) (by kernel_rfl) (by decide) (fun _ _ _ _ _ h => h) ?tg8 ?ty8 (by assumption) ?tr8
              case ti8 => (simp only [List.getElem?_toArray, List.getElem?_cons_succ, List.getElem?_cons_zero]; rfl)
              case td8 => exact rfl
              case tg8 => exact rfl
              case ty8 => (intro w hSw; (try dsimp only at hSw); go_split_ands; go_simp; try with_reducible rfl)
              simp only [List.setIfInBounds_toArray, List.set_cons_zero, List.set_cons_succ]
              refine' takeV 7 (oi := _) (d := _) (v := _) ?ti9 ?td9 (by kernel_rfl) (by kernel_rfl) (by kernel_rfl) (by kernel_rfl) (by decide) (fun _ _ _ _ _ h => h) ?tg9 ?ty9 (by assumption) ?tr9
              case ti9 => (simp only [List.getElem?_toArray, List.getElem?_cons_succ, List.getElem?_cons_zero]; rfl)
              case td9 => exact rfl
              case tg9 => exact rfl
              case ty9 => (intro w hSw; (try dsimp only at hSw); go_split_ands; go_simp; try with_reducible rfl)
              simp only [List.setIfInBounds_toArray, List.set_cons_zero, List.set_cons_succ]
              refine' takeV 8 (oi := _) (d := _) (v := _) ?ti10 ?td10 (by kernel_rfl) (by kernel_rfl) (by kernel_rfl) (by kernel_rfl) (by decide) (fun _ _ _ _ _ h => h) ?tg10 ?ty10 (by assumption) ?tr10
              case ti10 => (simp only [List.getElem?_toArray, List.getElem?_cons_succ, List.getElem?_cons_zero]; rfl)
              case td10 => exact rfl
              case tg10 => exact rfl
              case ty10 => (intro w hSw; (try dsimp only at hSw); go_split_ands; go_simp; try with_reducible rfl)
              simp only [List.setIfInBounds_toArray, List.set_cons_zero, List.set_cons_succ]
              refine' takeV 9 (oi := _) (d := _) (v := _) ?ti11 ?td11 (by kernel_rfl) (by kernel_rfl) (by kernel_rfl) (by kernel_rfl) (by decide) (fun _ _ _ _ _ h => h) ?tg11 ?ty11 (by assumption) ?tr11
              case ti11 => (simp only [List.getElem?_toArray, List.getElem?_cons_succ, List.getElem?_cons_zero]; rfl)
              case td11 => exact rfl
              case tg11 => exact rfl
              case ty11 => (intro w hSw; (try dsimp only at hSw); go_split_ands; go_simp; try with_reducible rfl)
              simp only [List.setIfInBounds_toArray, List.set_cons_zero, List.set_cons_succ]
              obtain ⟨V0, hV0⟩ : ∃ V0, V0 = wr.drew := ⟨_, rfl⟩
              rw [← hV0] at hHeld ⊢
              clear hV0
              have keepS : ∀ wa wb, (fun w' => (w'.cell? ⟨w.heap.size, 0, none⟩ = some (.int .u8 (k : Int)) ∧ w'.cell? ⟨w.heap.size, 2, none⟩ = some (.slice (some ⟨b, o, none⟩) n c) ∧ w'.cell? ⟨b, o + i * 9, none⟩ = some (.slice A1 n1 c1) ∧ w'.cell? ⟨b, o + i * 9 + 1, none⟩ = some (.slice A2 n2 c2) ∧ w'.cell? ⟨b, o + i * 9 + 2, none⟩ = some (.int .i64 L) ∧ w'.cell? ⟨b, o + i * 9 + 3, none⟩ = some (.int .u32 (r.1 : Int)) ∧ w'.cell? ⟨b, o + i * 9 + 4, none⟩ = some (.int .u64 (r.2.1 : Int)) ∧ w'.cell? ⟨b, o + i * 9 + 5, none⟩ = some (.int .u16 (r.2.2 : Int)) ∧ w'.cell? ⟨b, o + i * 9 + 6, none⟩ = some (.int .u32 (s.1 : Int)) ∧ w'.cell? ⟨b, o + i * 9 + 7, none⟩ = some (.int .u64 (s.2.1 : Int)) ∧ w'.cell? ⟨b, o + i * 9 + 8, none⟩ = some (.int .u16 (s.2.2 : Int)) ∧ Below W.heap.size W w') ∧ (w'.cell? ⟨w.heap.size + 1, 0, none⟩ = some (.int .u8 (k : Int)) ∧ w'.cell? ⟨w.heap.size + 1, 2, none⟩ = some (.slice (some ⟨b', o', none⟩) n c') ∧ w'.cell? ⟨b', o' + i * 9, none⟩ = some (.slice A1' n1' c1') ∧ w'.cell? ⟨b', o' + i * 9 + 1, none⟩ = some (.slice A2' n2' c2') ∧ w'.cell? ⟨b', o' + i * 9 + 2, none⟩ = some (.int .i64 L') ∧ w'.cell? ⟨b', o' + i * 9 + 3, none⟩ = some (.int .u32 (r'.1 : Int)) ∧ w'.cell? ⟨b', o' + i * 9 + 4, none⟩ = some (.int .u64 (r'.2.1 : Int)) ∧ w'.cell? ⟨b', o' + i * 9 + 5, none⟩ = some (.int .u16 (r'.2.2 : Int)) ∧ w'.cell? ⟨b', o' + i * 9 + 6, none⟩ = some (.int .u32 (s'.1 : Int)) ∧ w'.cell? ⟨b', o' + i * 9 + 7, none⟩ = some (.int .u64 (s'.2.1 : Int)) ∧ w'.cell? ⟨b', o' + i * 9 + 8, none⟩ = some (.int .u16 (s'.2.2 : Int)) ∧ Below W.heap.size W w')) wa → Below wa.heap.size wa wb → (fun w' => (w'.cell? ⟨w.heap.size, 0, none⟩ = some (.int .u8 (k : Int)) ∧ w'.cell? ⟨w.heap.size, 2, none⟩ = some (.slice (some ⟨b, o, none⟩) n c) ∧ w'.cell? ⟨b, o + i * 9, none⟩ = some (.slice A1 n1 c1) ∧ w'.cell? ⟨b, o + i * 9 + 1, none⟩ = some (.slice A2 n2 c2) ∧ w'.cell? ⟨b, o + i * 9 + 2, none⟩ = some (.int .i64 L) ∧ w'.cell? ⟨b, o + i * 9 + 3, none⟩ = some (.int .u32 (r.1 : Int)) ∧ w'.cell? ⟨b, o + i * 9 + 4, none⟩ = some (.int .u64 (r.2.1 : Int)) ∧ w'.cell? ⟨b, o + i * 9 + 5, none⟩ = some (.int .u16 (r.2.2 : Int)) ∧ w'.cell? ⟨b, o + i * 9 + 6, none⟩ = some (.int .u32 (s.1 : Int)) ∧ w'.cell? ⟨b, o + i * 9 + 7, none⟩ = some (.int .u64 (s.2.1 : Int)) ∧ w'.cell? ⟨b, o + i * 9 + 8, none⟩ = some (.int .u16 (s.2.2 : Int)) ∧ Below W.heap.size W w') ∧ (w'.cell? ⟨w.heap.size + 1, 0, none⟩ = some (.int .u8 (k : Int)) ∧ w'.cell? ⟨w.heap.size + 1, 2, none⟩ = some (.slice (some ⟨b', o', none⟩) n c') ∧ w'.cell? ⟨b', o' + i * 9, none⟩ = some (.slice A1' n1' c1') ∧ w'.cell? ⟨b', o' + i * 9 + 1, none⟩ = some (.slice A2' n2' c2') ∧ w'.cell? ⟨b', o' + i * 9 + 2, none⟩ = some (.int .i64 L') ∧ w'.cell? ⟨b', o' + i * 9 + 3, none⟩ = some (.int .u32 (r'.1 : Int)) ∧ w'.cell? ⟨b', o' + i * 9 + 4, none⟩ = some (.int .u64 (r'.2.1 : Int)) ∧ w'.cell? ⟨b', o' + i * 9 + 5, none⟩ = some (.int .u16 (r'.2.2 : Int)) ∧ w'.cell? ⟨b', o' + i * 9 + 6, none⟩ = some (.int .u32 (s'.1 : Int)) ∧ w'.cell? ⟨b', o' + i * 9 + 7, none⟩ = some (.int .u64 (s'.2.1 : Int)) ∧ w'.cell? ⟨b', o' + i * 9 + 8, none⟩ = some (.int .u16 (s'.2.2 : Int)) ∧ Below W.heap.size W w')) wb := fun wa wb h hb => TR.out wb (h.2.2.2.2.2.2.2.2.2.2.2.2.trans (hb.mono h.2.2.2.2.2.2.2.2.2.2.2.2.size))
              refine stepG2 10 11 (by kernel_rfl) ?_ ?_
              · refine StepOf.mk 10 (by simp only [List.getElem?_toArray, List.getElem?_cons_succ, List.getElem?_cons_zero]; rfl) (fun K hK => ?_)
                go_simp
                obtain ⟨ws1, hw1⟩ : ∃ wx : World, wx = V0.alloc (.cells z.toArray 49) := ⟨_, rfl⟩
                rw [← hw1]
                have hbs1 : Below V0.heap.size V0 ws1 := by rw [hw1]; exact below_new _ _
                have nbs1 : Blk ws1 V0.heap.size 49 z.toArray := by rw [hw1]; exact Blk.new _ _ _
                have szs1 : V0.heap.size < ws1.heap.size := by rw [hw1]; simp
                clear hw1
                have ges1 : W.heap.size ≤ V0.heap.size := (hHeld).2.2.2.2.2.2.2.2.2.2.2.2.size
                refine hK.out _ _ ?tu1 (fun hs1 => ?_)
                case tu1 => exact keepS _ _ hHeld hbs1
                clear hK K
                refine stepG 11 (by kernel_rfl) (by simp only [List.getElem?_toArray, List.getElem?_cons_succ, List.getElem?_cons_zero]; rfl) (fun K hK => ?_)
                go_simp
                obtain ⟨ws2, hw2⟩ : ∃ wx : World, wx = ws1.alloc (.cells z.toArray 49) := ⟨_, rfl⟩
                rw [← hw2]
                have hbs2 : Below ws1.heap.size ws1 ws2 := by rw [hw2]; exact below_new _ _
                have nbs2 : Blk ws2 ws1.heap.size 49 z.toArray := by rw [hw2]; exact Blk.new _ _ _
                have szs2 : ws1.heap.size < ws2.heap.size := by rw [hw2]; simp
                clear hw2
                have ges2 : W.heap.size ≤ ws1.heap.size := (hs1).2.2.2.2.2.2.2.2.2.2.2.2.size
                refine hK.out _ _ ?tu2 (fun hs2 => ?_)
                case tu2 => exact keepS _ _ hs1 hbs2
                clear hK K
                have nb10_2 := nbs1.below hbs2 nbs1.lt
                have hSB := (hs2).2.2.2.2.2.2.2.2.2.2.2.2
                have hSz := hSB.size
                refine stepG 12 (by kernel_rfl) (by simp only [List.getElem?_toArray, List.getElem?_cons_succ, List.getElem?_cons_zero]; rfl) (fun K hK => ?_)
                refine step_store_blk rfl 49 (.tmp 6) (.tmp 40) rfl rfl (cs := enC A1 n1 c1 A2 n2 c2 L r s) rfl nb10_2 (by rw [lz.out]; rfl) infoE (enC_one _ _ _ _ _ _ _ _ _) ?_
                intro wa hka hga
                refine hK.out _ _ ?ts12 (fun hHeld => ?_)
                case ts12 => ((try dsimp only); exact TR.out _ (hSB.grown hga hSB.size (by intro k hk; simp at hk; omega)))
                clear hK K
                have hkb := (nbs2).keep_grown hga (by simp; omega)
                have hSa := hSB.grown hga hSB.size (by intro k hk; simp at hk; omega)
                refine stepG 13 (by kernel_rfl) (by simp only [List.getElem?_toArray, List.getElem?_cons_succ, List.getElem?_cons_zero]; rfl) (fun K hK => ?_)
                refine step_store_blk rfl 49 (.tmp 7) (.tmp 45) rfl rfl (cs := enC A1' n1' c1' A2' n2' c2' L' r' s') rfl hkb (by rw [lz.out]; rfl) infoE (enC_one _ _ _ _ _ _ _ _ _) ?_
                intro wb hkb2 hgb
                refine hK.out _ _ ?ts13 (fun hHeld => ?_)
                case ts13 => ((try dsimp only); exact TR.out _ (hSa.grown hgb hSa.size (by intro k hk; simp at hk; omega)))
                clear hK K
                have hka2 := hka.keep_grown hgb (by simp; omega)
                have hSf := hSa.grown hgb hSa.size (by intro k hk; simp at hk; omega)
                refine doneG (by kernel_rfl) ?_ _
                go_wp2_with fail
                go_meet
                exact ⟨_, _, rfl, rfl, hka2, hkb2, hSf⟩
              · refine StepOf.mk 11 (by simp only [List.getElem?_toArray, List.getElem?_cons_succ, List.getElem?_cons_zero]; rfl) (fun K hK => ?_)
                go_simp
                obtain ⟨ws3, hw3⟩ : ∃ wx : World, wx = V0.alloc (.cells z.toArray 49) := ⟨_, rfl⟩
                rw [← hw3]
                have hbs3 : Below V0.heap.size V0 ws3 := by rw [hw3]; exact below_new _ _
                have nbs3 : Blk ws3 V0.heap.size 49 z.toArray := by rw [hw3]; exact Blk.new _ _ _
                have szs3 : V0.heap.size < ws3.heap.size := by rw [hw3]; simp
                clear hw3
                have ges3 : W.heap.size ≤ V0.heap.size := (hHeld).2.2.2.2.2.2.2.2.2.2.2.2.size
                refine hK.out _ _ ?tu3 (fun hs3 => ?_)
                case tu3 => exact keepS _ _ hHeld hbs3
                clear hK K
                refine stepG 10 (by kernel_rfl) (by simp only [List.getElem?_toArray, List.getElem?_cons_succ, List.getElem?_cons_zero]; rfl) (fun K hK => ?_)
                go_simp
                obtain ⟨ws4, hw4⟩ : ∃ wx : World, wx = ws3.alloc (.cells z.toArray 49) := ⟨_, rfl⟩
                rw [← hw4]
                have hbs4 : Below ws3.heap.size ws3 ws4 := by rw [hw4]; exact below_new _ _
                have nbs4 : Blk ws4 ws3.heap.size 49 z.toArray := by rw [hw4]; exact Blk.new _ _ _
                have szs4 : ws3.heap.size < ws4.heap.size := by rw [hw4]; simp
                clear hw4
                have ges4 : W.heap.size ≤ ws3.heap.size := (hs3).2.2.2.2.2.2.2.2.2.2.2.2.size
                refine hK.out _ _ ?tu4 (fun hs4 => ?_)
                case tu4 => exact keepS _ _ hs3 hbs4
                clear hK K
                have nb11_4 := nbs3.below hbs4 nbs3.lt
                have hSB := (hs4).2.2.2.2.2.2.2.2.2.2.2.2
                have hSz := hSB.size
                refine stepG 12 (by kernel_rfl) (by simp only [List.getElem?_toArray, List.getElem?_cons_succ, List.getElem?_cons_zero]; rfl) (fun K hK => ?_)
                refine step_store_blk rfl 49 (.tmp 6) (.tmp 40) rfl rfl (cs := enC A1 n1 c1 A2 n2 c2 L r s) rfl nbs4 (by rw [lz.out]; rfl) infoE (enC_one _ _ _ _ _ _ _ _ _) ?_
                intro wa hka hga
                refine hK.out _ _ ?ts14 (fun hHeld => ?_)
                case ts14 => ((try dsimp only); exact TR.out _ (hSB.grown hga hSB.size (by intro k hk; simp at hk; omega)))
                clear hK K
                have hkb := (nb11_4).keep_grown hga (by simp; omega)
                have hSa := hSB.grown hga hSB.size (by intro k hk; simp at hk; omega)
                refine stepG 13 (by kernel_rfl) (by simp only [List.getElem?_toArray, List.getElem?_cons_succ, List.getElem?_cons_zero]; rfl) (fun K hK => ?_)
                refine step_store_blk rfl 49 (.tmp 7) (.tmp 45) rfl rfl (cs := enC A1' n1' c1' A2' n2' c2' L' r' s') rfl hkb (by rw [lz.out]; rfl) infoE (enC_one _ _ _ _ _ _ _ _ _) ?_
                intro wb hkb2 hgb
                refine hK.out _ _ ?ts15 (fun hHeld => ?_)
                case ts15 => ((try dsimp only); exact TR.out _ (hSa.grown hgb hSa.size (by intro k hk; simp at hk; omega)))
                clear hK K
                have hka2 := hka.keep_grown hgb (by simp; omega)
                have hSf := hSa.grown hgb hSa.size (by intro k hk; simp at hk; omega)
                refine doneG (by kernel_rfl) ?_ _
                go_wp2_with fail
                go_meet
                exact ⟨_, _, rfl, rfl, hka2, hkb2, hSf⟩
            case rest =>
              obtain ⟨X, X', rfl, rfl, KX, KX', hbc⟩ := hcut
              have a0 : wc.cell? ⟨X, 0, none⟩ = some (.slice A1 n1 c1) := KX.cell 0
              have a1 : wc.cell? ⟨X, 1, none⟩ = some (.slice A2 n2 c2) := KX.cell 1
              have a2 : wc.cell? ⟨X, 2, none⟩ = some (.int .i64 L) := KX.cell 2
              have a3 : wc.cell? ⟨X, 3, none⟩ = some (.int .u32 (r.1 : Int)) := KX.cell 3
              have a4 : wc.cell? ⟨X, 4, none⟩ = some (.int .u64 (r.2.1 : Int)) := KX.cell 4
              have a5 : wc.cell? ⟨X, 5, none⟩ = some (.int .u16 (r.2.2 : Int)) := KX.cell 5
              have a6 : wc.cell? ⟨X, 6, none⟩ = some (.int .u32 (s.1 : Int)) := KX.cell 6
              have a7 : wc.cell? ⟨X, 7, none⟩ = some (.int .u64 (s.2.1 : Int)) := KX.cell 7
              have a8 : wc.cell? ⟨X, 8, none⟩ = some (.int .u16 (s.2.2 : Int)) := KX.cell 8
              have b0 : wc.cell? ⟨X', 0, none⟩ = some (.slice A1' n1' c1') := KX'.cell 0
              have b1 : wc.cell? ⟨X', 1, none⟩ = some (.slice A2' n2' c2') := KX'.cell 1
              have b2 : wc.cell? ⟨X', 2, none⟩ = some (.int .i64 L') := KX'.cell 2
              have b3 : wc.cell? ⟨X', 3, none⟩ = some (.int .u32 (r'.1 : Int)) := KX'.cell 3
              have b4 : wc.cell? ⟨X', 4, none⟩ = some (.int .u64 (r'.2.1 : Int)) := KX'.cell 4
              have b5 : wc.cell? ⟨X', 5, none⟩ = some (.int .u16 (r'.2.2 : Int)) := KX'.cell 5
              have b6 : wc.cell? ⟨X', 6, none⟩ = some (.int .u32 (s'.1 : Int)) := KX'.cell 6
              have b7 : wc.cell? ⟨X', 7, none⟩ = some (.int .u64 (s'.2.1 : Int)) := KX'.cell 7
              have b8 : wc.cell? ⟨X', 8, none⟩ = some (.int .u16 (s'.2.2 : Int)) := KX'.cell 8
              have hS1 := same_any A1 n1 c1 K A1' n1' c1' K' wc (HRK.out.below hbc) (HRK'.out.below hbc)
              have hS2 := same_any A2 n2 c2 V A2' n2' c2' V' wc (HRV.out.below hbc) (HRV'.out.below hbc)
              have HBC := Lib.hid hbc
              obtain ⟨e1, h1⟩ : ∃ e, (K == K') = e := ⟨_, rfl⟩
              obtain ⟨e2, h2⟩ : ∃ e, (V == V') = e := ⟨_, rfl⟩
              rw [h1] at hS1
              rw [h2] at hS2
              have HS1 := Lib.hid hS1
              have HS2 := Lib.hid hS2
              have HEQ : Hid (entEq (es.getD i ent0) (es'.getD i ent0) = (e1 && (e2 && (L == L' && (r == r' && s == s'))))) := by
                show _ = _
                rw [HEN.out, HEN'.out, ← h1, ← h2]; rfl
              have HFA : Hid (entEq (es.getD i ent0) (es'.getD i ent0) = false → sTo es es' es.length = false) := fun h => sTo_bad h _ (by rw [← HLn.out]; exact hlt)
              have hfin : Below w.heap.size w wc := HWB.out.trans (hbc.mono (Nat.le_of_lt hWs))
              have HFIN := Lib.hid hfin
              clear KX KX' hbc hS1 hS2 h1 h2 HRK HRV HRK' HRV' TR hfin
              cases e1 with
              | false =>
                have HF := Lib.hid (HFA.out (by rw [HEQ.out]; rfl))
                go_wp2_with (go_at_call 19; refine HS1.out.mono ?_; rintro e w' ⟨rfl, rfl⟩)
                go_ret
                exact ⟨by rw [HF.out]; rfl, HFIN.out⟩
              | true =>
                cases e2 with
                | false =>
                  have HF := Lib.hid (HFA.out (by rw [HEQ.out]; rfl))
                  go_wp2_with (first | (go_at_call_of 19 (Value.slice A1 n1 c1); refine HS1.out.mono ?_; rintro e w' ⟨rfl, rfl⟩) | (go_at_call_of 19 (Value.slice A2 n2 c2); refine HS2.out.mono ?_; rintro e w' ⟨rfl, rfl⟩))
                  go_ret
                  exact ⟨by rw [HF.out]; rfl, HFIN.out⟩
                | true =>
                  by_cases h3 : L = L'
                  · subst h3
                    cases h4 : (r == r') with
                    | false =>
                      have HF := Lib.hid (HFA.out (by rw [HEQ.out, h4]; simp))
                      go_wp2_with (first | (go_at_call_of 19 (Value.slice A1 n1 c1); refine HS1.out.mono ?_; rintro e w' ⟨rfl, rfl⟩) | (go_at_call_of 19 (Value.slice A2 n2 c2); refine HS2.out.mono ?_; rintro e w' ⟨rfl, rfl⟩))
                      go_ret
                      exact ⟨by rw [HF.out]; rfl, HFIN.out⟩
                    | true =>
                      cases h5 : (s == s') with
                      | false =>
                        have HF := Lib.hid (HFA.out (by rw [HEQ.out, h4, h5]; simp))
                        go_wp2_with (first | (go_at_call_of 19 (Value.slice A1 n1 c1); refine HS1.out.mono ?_; rintro e w' ⟨rfl, rfl⟩) | (go_at_call_of 19 (Value.slice A2 n2 c2); refine HS2.out.mono ?_; rintro e w' ⟨rfl, rfl⟩))
                        go_ret
                        exact ⟨by rw [HF.out]; rfl, HFIN.out⟩
                      | true =>
                        have HF : Hid (sTo es es' (i + 1) = true) := by
                          show _ = _
                          rw [sTo, HTO.out, HEQ.out, h4, h5]; simp
                        go_wp2_with (first | (go_at_call_of 19 (Value.slice A1 n1 c1); refine HS1.out.mono ?_; rintro e w' ⟨rfl, rfl⟩) | (go_at_call_of 19 (Value.slice A2 n2 c2); refine HS2.out.mono ?_; rintro e w' ⟨rfl, rfl⟩))
                        go_roundw
                        case rel => exact ⟨i + 1, by omega, by go_num, HF.out, HBC.out⟩
                        case measure => first | (simp [intOf]; done) | (simp [intOf]; omega)
                  · have hL : (L != L') = true := by rw [bne_iff_ne]; exact h3
                    have HF := Lib.hid (HFA.out (by rw [HEQ.out, beq_eq_false_iff_ne.2 h3]; simp))
                    clear h3
                    go_wp2_with (first | (go_at_call_of 19 (Value.slice A1 n1 c1); refine HS1.out.mono ?_; rintro e w' ⟨rfl, rfl⟩) | (go_at_call_of 19 (Value.slice A2 n2 c2); refine HS2.out.mono ?_; rintro e w' ⟨rfl, rfl⟩))
                    go_ret
                    exact ⟨by rw [HF.out]; rfl, HFIN.out⟩
          · obtain rfl : i = n := by omega
            have HT := HTO.out
            rw [HLn.out] at HT
            have HF := Lib.hid HT
            clear HT hi hlt
            go_wp2_with fail
            go_ret
            exact ⟨by rw [HF.out]; rfl, HWB.out.trans (HBE.out.mono (Nat.le_of_lt hWs))⟩
      · have HF := Lib.hid (sameN_bad (k := k) (l := l) (es := es) (k' := k') (l' := l') (es' := es') (.inr (.inr (by rw [← HLn.out, ← HLn'.out]; exact hnn))))
        have hb : ((n : Int) != (n' : Int)) = true := by rw [bne_iff_ne]; omega
        rw [HF.out]
        subst hkk hll
        clear hnn
        go_enter Try.func15, Try.ntmps15
        go_wp2_with fail
        rw [← HW.out]
        go_ret
        exact ⟨rfl, HWB.out⟩
    · have HF := Lib.hid (sameN_bad (k := k) (l := l) (es := es) (k' := k') (l' := l') (es' := es') (.inr (.inl hll)))
      have hb : ((l : Int) != (l' : Int)) = true := by rw [bne_iff_ne]; omega
      rw [HF.out]
      subst hkk
      clear hll
      go_enter Try.func15, Try.ntmps15
      go_wp2_with fail
      rw [← HW.out]
      go_ret
      exact ⟨rfl, HWB.out⟩
  · have HF := Lib.hid (sameN_bad (k := k) (l := l) (es := es) (k' := k') (l' := l') (es' := es') (.inl hkk))
    have hb : ((k : Int) != (k' : Int)) = true := by rw [bne_iff_ne]; omega
    rw [HF.out]
    clear hkk
    go_enter Try.func15, Try.ntmps15
    go_wp2_with fail
    rw [← HW.out]
    go_ret
    exact ⟨rfl, HWB.out⟩
end Go.Proofs.Ytihbpmceggghgaa

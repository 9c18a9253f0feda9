/-
  heap.Push and heap.Pop over the heap of interrupts: a push of a kind of greater rank puts it behind the others; a pop takes the first one. Condition: at most 8 elements.
-/
import Derived.Test.YtflimlalccmdnaaHeap
set_option linter.unusedVariables false
set_option linter.unusedSimpArgs false
namespace Go.Proofs.Ytflimlalccmdnaa
open Go.ChangeShapes Go.WideShapes Go.ChangeAt Go.RowKit

theorem own_below_ {w w' : World} {base n size : Nat} {e : TypeId} {v : Value} {ys : List Value} (h : w.ownsRow base e size v n ys) (hb : Below w.heap.size w w') : w'.ownsRow base e size v n ys :=
  h.kept (row := none) ⟨hb.os, hb.tape, hb.output, hb.size, fun k hk _ => hb.block k hk⟩ (by cases hv : v.ownBlock <;> simp)
theorem Less_I (B : Nat) (A : Option Addr) (n c : Nat) (ks : List (Int × Int × Int)) (x y : Int) (i j : Nat) (a1 b1 d1 a2 b2 d2 : Int) (w : World) (own : w.ownsRow B 76 3 (.slice A n c) n (kindCells ks)) (hi : ks[i]? = some (a1, b1, d1)) (hj : ks[j]? = some (a2, b2, d2)) (hn : n ≤ 100) (hx : x = (i : Int)) (hy : y = (j : Int)) :
    Calls Try.prog 93 #[.slice A n c, .int .i64 x, .int .i64 y] w fun e w' => e = .returned (.bool (decide (a1 < a2))) ∧ Below w.heap.size w w' := by
  subst hx; subst hy
  refine (Less_any B A n c ks i j a1 b1 d1 a2 b2 d2 w own hi hj hn).mono ?_
  rintro e w' ⟨rfl, k, rfl⟩
  exact ⟨rfl, b_drewN (b_refl w) k⟩
theorem Swap_I (B : Nat) (A : Option Addr) (n c : Nat) (ks : List (Int × Int × Int)) (x y : Int) (i j : Nat) (a1 b1 d1 a2 b2 d2 : Int) (w : World) (own : w.ownsRow B 76 3 (.slice A n c) n (kindCells ks)) (hi : ks[i]? = some (a1, b1, d1)) (hj : ks[j]? = some (a2, b2, d2)) (hn : n ≤ 100) (hx : x = (i : Int)) (hy : y = (j : Int)) :
    Calls Try.prog 96 #[.slice A n c, .int .i64 x, .int .i64 y] w fun e w' => ∃ v, e = .returned v ∧ w'.ownsRow B 76 3 (.slice A n c) n (kindCells ((ks.set i (a2, b2, d2)).set j (a1, b1, d1))) ∧ w.grownBy w' (Value.slice A n c).ownBlock := by
  subst hx; subst hy
  exact Swap_any B A n c ks i j a1 b1 d1 a2 b2 d2 w own hi hj hn
theorem kind_get {ks : List (Int × Int × Int)} {i : Nat} (h : i < ks.length) : ∃ a b d, ks[i]? = some (a, b, d) := ⟨_, _, _, by rw [List.getElem?_eq_getElem h]⟩
set_option maxRecDepth 100000 in
set_option maxHeartbeats 2000000 in
theorem up_any (hp B : Nat) (ks : List (Int × Int × Int)) (a b d : Int) (w : World) (h : HeapIs w hp B (ks ++ [(a, b, d)])) (hl : ks.length ≤ 7) (hs : ∀ k ∈ ks, k.1 < a) (x : Int) (hx : x = (ks.length : Int)) :
    Calls Try.prog 64 #[.iface 72 (.pointer (some ⟨hp, 0, none⟩)), .int .i64 x] w fun e w' => ∃ v, e = .returned v ∧ Below w.heap.size w w' := by
  subst hx
  obtain ⟨A, n, c, H, own, hnc, hcm⟩ := h
  have hn := HeapIs.len own
  rw [List.length_append] at hn
  have x0 := H.cell 0
  simp at x0 hn
  have mL := m_Less hp A n c w x0
  generalize hm : ks.length = m at *
  by_cases h0 : m = 0
  · subst h0
    go_enter Try.func64, Try.ntmps64
    go_wp2
    go_loopw [1] (fun j wr => j = .int .i64 0 ∧ wr = w) (fun _ _ => 0)
    case atStart => exact ⟨rfl, rfl⟩
    case round =>
      obtain ⟨rfl, rfl⟩ := hrel
      go_wp2
      go_returns
      exact ⟨_, rfl, b_refl _⟩
  · obtain ⟨a1, b1, d1, hk⟩ := kind_get (ks := ks) (i := (m - 1) / 2) (by omega)
    have ha : a1 < a := hs _ (List.mem_of_getElem? hk)
    have hna : decide (a < a1) = false := by simp; omega
    have g1 : (ks ++ [(a, b, d)])[m]? = some (a, b, d) := by rw [List.getElem?_append_right (by omega), hm, Nat.sub_self]; rfl
    have g2 : (ks ++ [(a, b, d)])[(m - 1) / 2]? = some (a1, b1, d1) := by rw [List.getElem?_append_left (by omega)]; exact hk
    have m1 : (1 : Int) ≤ (m : Int) := by omega
    have m2 : (m : Int) ≤ 7 := by omega
    have m3 : ¬ ((m : Int) - 1) / 2 = (m : Int) := by omega
    have m4 : (((m : Int) - 1) / 2 == (m : Int)) = false := by simpa using m3
    have m5 : ((m : Int) - 1) / 2 = (((m - 1) / 2 : Nat) : Int) := by omega
    have M5 := Lib.hid m5
    clear hk hs hm m5
    go_enter Try.func64, Try.ntmps64
    go_wp2
    go_loopw [1] (fun j wr => j = .int .i64 m ∧ wr = w) (fun _ _ => 0)
    case atStart => exact ⟨rfl, rfl⟩
    case round =>
      obtain ⟨rfl, rfl⟩ := hrel
      go_wp2_with fail
      (with_reducible refine (Less_I B A n c _ _ _ m ((m - 1) / 2) a b d a1 b1 d1 _ own g1 g2 (by omega) rfl M5.out).mono ?_); rintro e w1 ⟨rfl, hb1⟩
      rw [hna]
      go_wp2
      go_returns
      exact ⟨_, rfl, hb1⟩
set_option maxRecDepth 100000 in
set_option maxHeartbeats 2000000 in
theorem heapPush_any (hp B : Nat) (ks : List (Int × Int × Int)) (a b d : Int) (w : World) (h : HeapIs w hp B ks) (hB : B ≤ w.heap.size) (hhp : B ≤ hp) (hl : ks.length ≤ 7) (hs : ∀ k ∈ ks, k.1 < a) :
    Calls Try.prog 41 #[.iface 72 (.pointer (some ⟨hp, 0, none⟩)), .iface 76 (.agg #[.int .i64 a, .int .i64 b, .int .i64 d])] w fun e w' => ∃ v, e = .returned v ∧ HeapIs w' hp B (ks ++ [(a, b, d)]) ∧ Below B w w' := by
  have mP := m_Push hp w
  go_enter Try.func41, Try.ntmps41
  go_wp2_with fail
  (with_reducible refine (irqPush_any hp B ks a b d _ h hB hhp hl).mono ?_); rintro e w1 ⟨v1, rfl, h1, hb1⟩
  obtain ⟨A, n, c, H, own, hnc, hcm⟩ := id h1
  have hn := HeapIs.len own
  have x0 := H.cell 0
  simp at x0 hn
  have hn2 : (n : Int) ≤ 8 := by omega
  have hn3 : (1 : Int) ≤ (n : Int) := by omega
  have mL := m_Len hp A n c w1 x0
  clear H own
  go_wp2_with fail
  (with_reducible refine (Len_any A n c _).mono ?_); rintro e w2 ⟨rfl, rfl⟩
  go_wp2_with fail
  (with_reducible refine (up_any hp B ks a b d _ h1 hl hs _ (by omega)).mono ?_); rintro e w3 ⟨v3, rfl, hb3⟩
  go_wp2
  go_returns
  obtain ⟨A, n, c, H, own, hnc, hcm⟩ := h1
  exact ⟨_, rfl, ⟨A, n, c, H.below hb3 H.lt, own_below_ own hb3, hnc, hcm⟩, hb1.trans (hb3.mono (by have := hb1.size; omega))⟩
set_option maxRecDepth 100000 in
set_option maxHeartbeats 8000000 in
theorem down_any (hp B n : Nat) (ks : List (Int × Int × Int)) (w : World) (h : HeapIs w hp B ks) (hB : B ≤ w.heap.size) (hl : ks.length = n + 1) (hn : n ≤ 7) :
    Calls Try.prog 65 #[.iface 72 (.pointer (some ⟨hp, 0, none⟩)), .int .i64 0, .int .i64 n] w fun e w' => ∃ v ks', e = .returned v ∧ HeapIs w' hp B ks' ∧ ks'.length = n + 1 ∧ ks'[n]? = ks[n]? ∧ Below B w w' := by
  go_enter Try.func65, Try.ntmps65
  go_wp2
  go_loopw [7] (fun x wr => ∃ (i : Nat) (ks' : List (Int × Int × Int)), x = .int .i64 i ∧ i ≤ n ∧ HeapIs wr hp B ks' ∧ ks'.length = n + 1 ∧ ks'[n]? = ks[n]? ∧ Below B w wr) (fun x _ => n - (intOf x).toNat)
  case atStart => exact ⟨0, ks, rfl, Nat.zero_le _, h, hl, rfl, Below.refl _ _⟩
  case round =>
    obtain ⟨i, ks', rfl, hin, hh, hl', hla, B0⟩ := hrel
    obtain ⟨A, m, c, H0, own0, hnc, hcm⟩ := hh
    have hm := HeapIs.len own0
    have hmn : m = n + 1 := by omega
    subst hmn
    have x0 := H0.cell 0
    simp at x0
    have mL := m_Less hp A (n + 1) c _ x0
    clear h hm
    by_cases c1 : 2 * i + 1 < n
    case' neg =>
      have c2 : (n : Int) ≤ 2 * (i : Int) + 1 := by omega
      go_wp2
      go_returns
      exact ⟨_, ks', rfl, ⟨A, n + 1, c, H0, own0, hnc, hcm⟩, hl', hla, B0⟩
    have c1' : ¬ (n : Int) ≤ 2 * (i : Int) + 1 := by omega
    have c1n : ¬ 2 * (i : Int) + 1 < 0 := by omega
    obtain ⟨ai, bi, di, gi⟩ := kind_get (ks := ks') (i := i) (by omega)
    obtain ⟨a1, b1, d1, g1⟩ := kind_get (ks := ks') (i := 2 * i + 1) (by omega)
    by_cases c2 : 2 * i + 1 + 1 < n
    case' neg =>
      have c2' : ¬ 2 * (i : Int) + 1 + 1 < (n : Int) := by omega
      go_wp2_with fail
      (with_reducible refine (Less_I B A (n + 1) c ks' _ _ (2 * i + 1) i a1 b1 d1 ai bi di _ own0 g1 gi (by omega) (by omega) rfl).mono ?_); rintro e w02 ⟨rfl, hb02⟩
      have H02 := H0.below hb02 H0.lt
      have own02 := own_below_ own0 hb02
      have B02 := B0.trans (hb02.mono (by have := B0.size; omega))
      have x02 := H02.cell 0
      simp at x02
      have mS02 := m_Swap hp A (n + 1) c _ x02
      by_cases lt0 : a1 < ai
      · have dl0 : decide (a1 < ai) = true := by simpa using lt0
        rw [dl0]
        go_wp2_with fail
        (with_reducible refine (Swap_I B A (n + 1) c ks' _ _ i (2 * i + 1) ai bi di a1 b1 d1 _ own02 gi g1 (by omega) rfl (by omega)).mono ?_); rintro e w03 ⟨v03, rfl, own03, ho03⟩
        go_wp2
        go_roundw
        case rel => exact ⟨2 * i + 1, _, by first | rfl | (congr 1; omega), by omega, ⟨A, n + 1, c, H02.grownk own02 (by decide) ho03, own03, hnc, hcm⟩, by rw [List.length_set, List.length_set]; exact hl', by rw [List.getElem?_set_ne (by omega), List.getElem?_set_ne (by omega)]; exact hla, B02.grown ho03 (by have := B02.size; omega) (fun g hg => (own02.lt g hg).1)⟩
        case measure => simp [intOf]; omega
      · have dl0 : decide (a1 < ai) = false := by simpa using lt0
        rw [dl0]
        go_wp2
        go_returns
        exact ⟨_, ks', rfl, ⟨A, n + 1, c, H02, own02, hnc, hcm⟩, hl', hla, B02⟩
    have c2' : 2 * (i : Int) + 1 + 1 < (n : Int) := by omega
    obtain ⟨a2, b2, d2, g2⟩ := kind_get (ks := ks') (i := 2 * i + 1 + 1) (by omega)
    go_wp2_with fail
    (with_reducible refine (Less_I B A (n + 1) c ks' _ _ (2 * i + 1 + 1) (2 * i + 1) a2 b2 d2 a1 b1 d1 _ own0 g2 g1 (by omega) (by omega) (by omega)).mono ?_); rintro e w5 ⟨rfl, hb5⟩
    have H5 := H0.below hb5 H0.lt
    have own5 := own_below_ own0 hb5
    have B5 := B0.trans (hb5.mono (by have := B0.size; omega))
    have x5 := H5.cell 0
    simp at x5
    have mL5 := m_Less hp A (n + 1) c _ x5
    by_cases q : a2 < a1
    · have dq : decide (a2 < a1) = true := by simpa using q
      rw [dq]
      go_wp2_with fail
      (with_reducible refine (Less_I B A (n + 1) c ks' _ _ (2 * i + 1 + 1) i a2 b2 d2 ai bi di _ own5 g2 gi (by omega) (by omega) rfl).mono ?_); rintro e w52 ⟨rfl, hb52⟩
      have H52 := H5.below hb52 H5.lt
      have own52 := own_below_ own5 hb52
      have B52 := B5.trans (hb52.mono (by have := B5.size; omega))
      have x52 := H52.cell 0
      simp at x52
      have mS52 := m_Swap hp A (n + 1) c _ x52
      by_cases lt5 : a2 < ai
      · have dl5 : decide (a2 < ai) = true := by simpa using lt5
        rw [dl5]
        go_wp2_with fail
        (with_reducible refine (Swap_I B A (n + 1) c ks' _ _ i (2 * i + 1 + 1) ai bi di a2 b2 d2 _ own52 gi g2 (by omega) rfl (by omega)).mono ?_); rintro e w53 ⟨v53, rfl, own53, ho53⟩
        go_wp2
        go_roundw
        case rel => exact ⟨2 * i + 1 + 1, _, by first | rfl | (congr 1; omega), by omega, ⟨A, n + 1, c, H52.grownk own52 (by decide) ho53, own53, hnc, hcm⟩, by rw [List.length_set, List.length_set]; exact hl', by rw [List.getElem?_set_ne (by omega), List.getElem?_set_ne (by omega)]; exact hla, B52.grown ho53 (by have := B52.size; omega) (fun g hg => (own52.lt g hg).1)⟩
        case measure => simp [intOf]; omega
      · have dl5 : decide (a2 < ai) = false := by simpa using lt5
        rw [dl5]
        go_wp2
        go_returns
        exact ⟨_, ks', rfl, ⟨A, n + 1, c, H52, own52, hnc, hcm⟩, hl', hla, B52⟩
    · have dq : decide (a2 < a1) = false := by simpa using q
      rw [dq]
      go_wp2_with fail
      (with_reducible refine (Less_I B A (n + 1) c ks' _ _ (2 * i + 1) i a1 b1 d1 ai bi di _ own5 g1 gi (by omega) (by omega) rfl).mono ?_); rintro e w52 ⟨rfl, hb52⟩
      have H52 := H5.below hb52 H5.lt
      have own52 := own_below_ own5 hb52
      have B52 := B5.trans (hb52.mono (by have := B5.size; omega))
      have x52 := H52.cell 0
      simp at x52
      have mS52 := m_Swap hp A (n + 1) c _ x52
      by_cases lt5 : a1 < ai
      · have dl5 : decide (a1 < ai) = true := by simpa using lt5
        rw [dl5]
        go_wp2_with fail
        (with_reducible refine (Swap_I B A (n + 1) c ks' _ _ i (2 * i + 1) ai bi di a1 b1 d1 _ own52 gi g1 (by omega) rfl (by omega)).mono ?_); rintro e w53 ⟨v53, rfl, own53, ho53⟩
        go_wp2
        go_roundw
        case rel => exact ⟨2 * i + 1, _, by first | rfl | (congr 1; omega), by omega, ⟨A, n + 1, c, H52.grownk own52 (by decide) ho53, own53, hnc, hcm⟩, by rw [List.length_set, List.length_set]; exact hl', by rw [List.getElem?_set_ne (by omega), List.getElem?_set_ne (by omega)]; exact hla, B52.grown ho53 (by have := B52.size; omega) (fun g hg => (own52.lt g hg).1)⟩
        case measure => simp [intOf]; omega
      · have dl5 : decide (a1 < ai) = false := by simpa using lt5
        rw [dl5]
        go_wp2
        go_returns
        exact ⟨_, ks', rfl, ⟨A, n + 1, c, H52, own52, hnc, hcm⟩, hl', hla, B52⟩
set_option maxHeartbeats 2000000 in
theorem irqPop_any (hp B n : Nat) (ks : List (Int × Int × Int)) (a b d : Int) (w : World) (h : HeapIs w hp B ks) (hB : B ≤ w.heap.size) (hhp : B ≤ hp) (hl : ks.length = n + 1) (hn : n ≤ 7) (hk : ks[n]? = some (a, b, d)) :
    Calls Try.prog 94 #[.pointer (some ⟨hp, 0, none⟩)] w fun e w' => e = .returned (.iface 76 (.agg #[.int .i64 a, .int .i64 b, .int .i64 d])) ∧ Below B w w' := by
  obtain ⟨A, m, c, H, own, hnc, hcm⟩ := h
  have hm := HeapIs.len own
  have hmn : m = n + 1 := by omega
  subst hmn
  obtain ⟨g, rfl, hkn, hBg, hlt, e1, e2, e3⟩ := own_kind own hk
  have x0 := H.cell 0
  simp at x0
  have f0 := H.frozen 0
  have Hl := H.lt
  unfold maxLen at hcm
  have i0 : (0 : Int) ≤ (n : Int) := by omega
  have i1 : (n : Int) < ((n + 1 : Nat) : Int) := by omega
  have i2 : (n : Int) ≤ (c : Int) := by omega
  have i3 : (c : Int) ≤ 9223372036854775807 := by omega
  have i4 : ¬ n = c := by omega
  have i5 : ¬ c = n := by omega
  clear own hk hm hl
  go_enter Try.func94, Try.ntmps94
  go_wp2
  go_returns
  exact ⟨rfl, by repeat (first | (with_reducible exact Below.refl _ _) | (with_reducible refine Below.setCell ?_ ?_ _) | (with_reducible refine Below.alloc ?_ ?_ _) | (with_reducible refine Below.drew ?_) | omega | (focus (simp; done)) | (focus (simp; omega)))⟩
set_option maxRecDepth 100000 in
set_option maxHeartbeats 2000000 in
theorem heapPop_any (hp B n : Nat) (ks : List (Int × Int × Int)) (a b d : Int) (w : World) (h : HeapIs w hp B ks) (hB : B ≤ w.heap.size) (hhp : B ≤ hp) (hl : ks.length = n + 1) (hn : n ≤ 7) (hk : ks[0]? = some (a, b, d)) :
    Calls Try.prog 43 #[.iface 72 (.pointer (some ⟨hp, 0, none⟩))] w fun e w' => e = .returned (.iface 76 (.agg #[.int .i64 a, .int .i64 b, .int .i64 d])) ∧ Below B w w' := by
  obtain ⟨A, m, c, H, own, hnc, hcm⟩ := h
  have hm := HeapIs.len own
  have hmn : m = n + 1 := by omega
  subst hmn
  have x0 := H.cell 0
  simp at x0
  have mL := m_Len hp A (n + 1) c w x0
  have mS := m_Swap hp A (n + 1) c w x0
  obtain ⟨an, bn, dn, gn⟩ := kind_get (ks := ks) (i := n) (by omega)
  go_enter Try.func43, Try.ntmps43
  go_wp2_with fail
  (with_reducible refine (Len_any A (n + 1) c _).mono ?_); rintro e w1 ⟨rfl, rfl⟩
  go_wp2_with fail
  (with_reducible refine (Swap_I B A (n + 1) c ks 0 _ 0 n a b d an bn dn _ own hk gn (by omega) (by simp) (by first | rfl | (simp; done) | omega)).mono ?_); rintro e w2 ⟨v2, rfl, own2, ho2⟩
  have H2 := H.grownk own (by decide) ho2
  have B2 : Below B w w2 := (Below.refl B w).grown ho2 hB (fun g hg => (own.lt g hg).1)
  have h2 : HeapIs w2 hp B ((ks.set 0 (an, bn, dn)).set n (a, b, d)) := ⟨A, n + 1, c, H2, own2, hnc, hcm⟩
  have hk2 : ((ks.set 0 (an, bn, dn)).set n (a, b, d))[n]? = some (a, b, d) := by rw [List.getElem?_set_self (by rw [List.length_set]; omega)]
  have hl2 : ((ks.set 0 (an, bn, dn)).set n (a, b, d)).length = n + 1 := by rw [List.length_set, List.length_set]; exact hl
  have hBw2 : B ≤ w2.heap.size := by have := B2.size; omega
  clear own H own2 H2 hk gn ho2 mL mS
  go_wp2_with fail
  (with_reducible refine (down_any hp B n _ _ h2 hBw2 hl2 hn).mono ?_); rintro e w3 ⟨v3, ks3, rfl, h3, hl3, hk3, B3⟩
  have mP := m_Pop hp w3
  go_wp2_with fail
  (with_reducible refine (irqPop_any hp B n ks3 a b d _ h3 (by have := B3.size; omega) hhp hl3 hn (hk3.trans hk2)).mono ?_); rintro e w4 ⟨rfl, B4⟩
  go_wp2
  go_returns
  exact ⟨rfl, (B2.trans B3).trans B4⟩
end Go.Proofs.Ytflimlalccmdnaa

/-
  FLOW OVER A LIST OF COUNTS: what FlowRun returns (the program's, by a closure; the reference's), and the draw of counts.
-/
import Derived.Test.YtgnoceofabkfcaaFlowDraw
import Derived.Test.YtgnoceofabkfcaaBools
set_option linter.unusedVariables false
set_option linter.unusedSimpArgs false
namespace Go.Proofs.Ytgnoceofabkfcaa
open Go.ChangeShapes Go.WideShapes Go.ChangeAt Go.RowKit

/-- Whether bytes are wanted behind each of these counts. -/
def flowRun (h l : Int) : Bool → List Int → List Bool
  | _, [] => []
  | wt, c :: cs => flowNext h l c wt :: flowRun h l (flowNext h l c wt) cs
def flowLast (h l : Int) (wt : Bool) (cs : List Int) : Bool := cs.foldl (fun b c => flowNext h l c b) wt
theorem flowLast_snoc (h l : Int) (wt : Bool) (cs : List Int) (c : Int) : flowLast h l wt (cs ++ [c]) = flowNext h l c (flowLast h l wt cs) := by simp [flowLast]
theorem flowRun_snoc (h l : Int) (wt : Bool) (cs : List Int) (c : Int) : flowRun h l wt (cs ++ [c]) = flowRun h l wt cs ++ [flowNext h l c (flowLast h l wt cs)] := by
  induction cs generalizing wt with
  | nil => rfl
  | cons a cs ih => simp only [List.cons_append, flowRun, ih]; rfl
theorem flowRun_length (h l : Int) (wt : Bool) (cs : List Int) : (flowRun h l wt cs).length = cs.length := by
  induction cs generalizing wt with
  | nil => rfl
  | cons a cs ih => simp [flowRun, ih]
theorem flowRun_get {h l : Int} (wt : Bool) (cs : List Int) (k : Nat) (c : Int) (hc : cs[k]? = some c) : (flowRun h l wt cs)[k]? = some (flowNext h l c (flowLast h l wt (cs.take k))) := by
  induction cs generalizing wt k with
  | nil => simp at hc
  | cons a cs ih =>
    cases k with
    | zero =>
      simp at hc
      subst hc
      simp [flowRun, flowLast]
    | succ k =>
      simp only [List.getElem?_cons_succ] at hc
      simp only [flowRun, List.getElem?_cons_succ, ih _ k hc, List.take_succ_cons]
      rfl
theorem flow_few {h l x : Int} {s : Bool} (a : flowOk h l = true) : flowNext h l x s = s ∨ (flowNext h l x s = true ∧ s = false ∧ x ≤ l) ∨ (flowNext h l x s = false ∧ s = true ∧ h ≤ x) := by
  simp only [flowNext, a, if_true]
  split
  · cases s <;> simp_all
  · split
    · cases s <;> simp_all
    · exact .inl rfl
theorem take_snoc {xs : List Int} {k : Nat} {x : Int} (h : xs[k]? = some x) : xs.take (k + 1) = xs.take k ++ [x] := by rw [List.take_add_one, h]; rfl
/-- What FlowRun returns. -/
def flowAll (h l : Int) (wt : Bool) (cs : List Int) : List Bool := if flowOk h l = true ∧ cs.length ≤ 40 then flowRun h l wt cs else []
theorem flowAll_yes {h l : Int} {wt : Bool} {cs : List Int} (a : flowOk h l = true) (b : cs.length ≤ 40) : flowAll h l wt cs = flowRun h l wt cs := if_pos ⟨a, b⟩
theorem flowAll_no {h l : Int} {wt : Bool} {cs : List Int} (a : ¬ (flowOk h l = true ∧ cs.length ≤ 40)) : flowAll h l wt cs = [] := if_neg a

/-- The closure that tells for one count after the other: limits in block bf, what was wanted in block bw. -/
theorem closure_any (h l x : Int) (s : Bool) (bf bw : Nat) (w : World) (hF : Blk w bf 25 #[.int .i64 h, .int .i64 l]) (hW : Blk w bw 4 #[.bool s]) (hok : flowOk h l = true) :
    Calls Try.prog 34 #[.int .i64 x, .pointer (some ⟨bf, 0, none⟩), .pointer (some ⟨bw, 0, none⟩)] w fun e w' => e = .returned (.bool (flowNext h l x s)) ∧ Blk w' bw 4 #[.bool (flowNext h l x s)] ∧ w.grownBy w' (some bw) := by
  have HO := Lib.hid hok
  clear hok
  have f0 := hF.cell 0
  have f1 := hF.cell 1
  have g0 := hW.cell 0
  have g1 := hW.frozen 0
  simp at f0 f1 g0
  go_enter Try.func34, Try.ntmps34
  by_cases h1 : h ≤ x
  · rw [← flowNext_2 (wt := s) HO.out h1]
    go_wp2
    go_ret
    exact ⟨rfl, by simpa using hW.set_ 0 (.bool false), (by repeat (first | (with_reducible exact only_refl _ _) | (with_reducible refine only_drew ?_) | (with_reducible refine only_drewN ?_ _) | (with_reducible refine only_alloc ?_ _) | (with_reducible refine only_setCell ?_ (.inl rfl) _) | (with_reducible refine only_setCell ?_ (.inr ?_) _) | (with_reducible refine only_below ?_ (by assumption)) | (with_reducible refine only_trans ?_ (by assumption)) | omega | (focus (simp; done)) | (focus (simp; omega))))⟩
  · by_cases h2 : x ≤ l
    · rw [← flowNext_3 (wt := s) HO.out (by omega) h2]
      go_wp2
      go_ret
      exact ⟨rfl, by simpa using hW.set_ 0 (.bool true), (by repeat (first | (with_reducible exact only_refl _ _) | (with_reducible refine only_drew ?_) | (with_reducible refine only_drewN ?_ _) | (with_reducible refine only_alloc ?_ _) | (with_reducible refine only_setCell ?_ (.inl rfl) _) | (with_reducible refine only_setCell ?_ (.inr ?_) _) | (with_reducible refine only_below ?_ (by assumption)) | (with_reducible refine only_trans ?_ (by assumption)) | omega | (focus (simp; done)) | (focus (simp; omega))))⟩
    · rw [← flowNext_4 (wt := s) HO.out (by omega) (by omega)]
      go_wp2
      go_ret
      exact ⟨rfl, hW, (by repeat (first | (with_reducible exact only_refl _ _) | (with_reducible refine only_drew ?_) | (with_reducible refine only_drewN ?_ _) | (with_reducible refine only_alloc ?_ _) | (with_reducible refine only_setCell ?_ (.inl rfl) _) | (with_reducible refine only_setCell ?_ (.inr ?_) _) | (with_reducible refine only_below ?_ (by assumption)) | (with_reducible refine only_trans ?_ (by assumption)) | omega | (focus (simp; done)) | (focus (simp; omega))))⟩
theorem flowFrom_any (h l : Int) (s : Bool) (w : World) :
    Calls Try.prog 30 #[.agg #[.int .i64 h, .int .i64 l], .bool s] w fun e w' => e = .returned (.func (.func 34) #[] #[.pointer (some ⟨w.heap.size, 0, none⟩), .pointer (some ⟨w.heap.size + 1, 0, none⟩)]) ∧
      Blk w' w.heap.size 25 #[.int .i64 h, .int .i64 l] ∧ Blk w' (w.heap.size + 1) 4 #[.bool s] ∧ Below w.heap.size w w' := by
  go_enter Try.func30, Try.ntmps30
  go_wp2
  go_ret
  exact ⟨rfl, (Blk.new _ _ _).alloc _, by simpa using Blk.new (w.alloc (.cells #[.int .i64 h, .int .i64 l] 25)) 4 #[.bool s], (by repeat (first | (with_reducible exact b_refl _) | (with_reducible refine b_alloc ?_ _) | (with_reducible refine b_drew ?_) | (with_reducible refine b_drewN ?_ _) | (with_reducible refine b_set ?_ ?_ _) | (with_reducible refine b_trans ?_ (by assumption)) | (with_reducible refine b_only ?_ (by assumption) ?_) | omega | (focus (simp; done)) | (focus (simp; omega))))⟩
set_option maxHeartbeats 1000000 in
theorem spec_FlowRun (h l : Int) (A : Option Addr) (n c : Nat) (wt : Bool) (xs : List Int) (w : World) (hx : Ints w A n xs) (hn : n ≤ 1099511627776) :
    Calls Try.prog 19 #[.agg #[.int .i64 h, .int .i64 l], .slice A n c, .bool wt] w fun e w' => ∃ (A' : Option Addr) (m c' : Nat), e = .returned (.slice A' m c') ∧ m = (flowAll h l wt xs).length ∧ w'.ownsRow w.heap.size 4 1 (.slice A' m c') m ((flowAll h l wt xs).map Value.bool) ∧ Below w.heap.size w w' := by
  obtain ⟨i0, hi0, j0, j1, j2⟩ := info_parts bool_info
  have HX := Lib.hid hx.len
  by_cases hok : flowOk h l = true ∧ n ≤ 40
  · obtain ⟨hok, h40⟩ := hok
    have h40i : (n : Int) ≤ 40 := by omega
    rw [flowAll_yes hok (by have := HX.out; omega)]
    go_enter Try.func19, Try.ntmps19
    go_wp2
    go_loopw [2, 7, 8] (fun sl v i wr => ∃ (k : Nat) (s : Bool) (ys : List Bool), k ≤ n ∧ i = .int .i64 k ∧ sl = .bool s ∧ wr.ownsRow w.heap.size 4 1 v k (ys.map Value.bool) ∧ Blk wr w.heap.size 25 #[.int .i64 h, .int .i64 l] ∧ Below w.heap.size w wr ∧ Hid (s = flowLast h l wt (xs.take k) ∧ ys = flowRun h l wt (xs.take k))) (fun _ _ i _ => n - (intOf i).toNat)
    case atStart => exact ⟨0, wt, [], Nat.zero_le _, rfl, rfl, by simpa using World.ownsRow_lit (w.alloc (.cells #[.int .i64 h, .int .i64 l] 25)) #[] 0 (base := w.heap.size) (e := 4) (size := 1) (by simp) (by unfold maxLen; omega) rfl, (Blk.new _ _ _).alloc _, (by repeat (first | (with_reducible exact b_refl _) | (with_reducible refine b_alloc ?_ _) | (with_reducible refine b_drew ?_) | (with_reducible refine b_drewN ?_ _) | (with_reducible refine b_set ?_ ?_ _) | (with_reducible refine b_trans ?_ (by assumption)) | (with_reducible refine b_only ?_ (by assumption) ?_) | omega | (focus (simp; done)) | (focus (simp; omega)))), rfl, rfl⟩
    case round =>
      obtain ⟨k, s, ys, hk, rfl, rfl, hown, hF, hbr, HS⟩ := hrel
      have hFl := hF.lt
      have f0 := hF.cell 0
      have f1 := hF.cell 1
      simp at f0 f1
      by_cases hlt : k < n
      · obtain ⟨b, o, x, rfl, hb, ex, hc0⟩ := hx.at_ hlt
        have EX := Lib.hid ex
        have hc := (hbr.cell (p := ⟨b, o + k, none⟩) hb).trans hc0
        clear ex hc0
        go_wp2_with (go_at_call 12; go_must ((with_reducible refine (spec_FlowValid _ _ _).mono ?_); rintro e w2 ⟨rfl, hb2⟩; have hz2 := hb2.size; (try simp at hz2); have F2 := (hF).below hb2 (by first | omega | (simp; done) | (simp; omega)); have F2l := F2.lt; have F2c0 := F2.cell 0; have F2f0 := F2.frozen 0; have F2c1 := F2.cell 1; have F2f1 := F2.frozen 1; (try simp at F2c0 F2c1); have c2 := (hb2.cell (p := ⟨b, o + k, none⟩) (by simp; omega)).trans hc))
        go_region_held3 (fun w' => w'.cell? ⟨w.heap.size, 0, none⟩ = some (.int .i64 h) ∧ w'.cell? ⟨w.heap.size, 1, none⟩ = some (.int .i64 l) ∧ w'.cell? ⟨b, o + k, none⟩ = some (.int .i64 x)) (first | (go_simp; done) | (go_keep; done)) (first | (go_at_call 15; go_must ((with_reducible refine (spec_FlowNext h l x s _).mono ?_); rintro e w3 ⟨rfl, hb3⟩; have hz3 := hb3.size; (try simp at hz3); have F3 := (F2.drew).below hb3 (by first | omega | (simp; done) | (simp; omega)); have F3l := F3.lt; have F3c0 := F3.cell 0; have F3f0 := F3.frozen 0; have F3c1 := F3.cell 1; have F3f1 := F3.frozen 1; (try simp at F3c0 F3c1); have c3 := (hb3.cell (p := ⟨b, o + k, none⟩) (by simp; omega)).trans c2)))
        have hown3 := own_below (own_below hown hb2).drew hb3
        have hbr3 := b_trans (b_drew (b_trans hbr hb2)) hb3
        go_wp2_with (at_builtin; go_must (refine wpList_append_own _ rfl (.tmp 32) (.tmp 34) 37 rfl w.heap.size 4 i0 (.bool false) 1 1 Try.underlying37 hi0 j0 j1 j2 rfl (by decide) _ _ _ rfl (hown3.alloc _) ⟨w3.heap.size, 0, none⟩ 1 1 [.bool (flowNext h l x s)] rfl rfl (cell_one_new _ _ _) (fun u hu => by simp at hu; subst hu; rfl) (by unfold maxLen; omega) (by omega) (by have := hbr3.size; simp; omega) ?_); intro v' w4 hown4 hgrow4 _)
        have hne4 := own_blk_ne hown3 F3 (by decide)
        have F4 := (F3.alloc (.cells #[.bool (flowNext h l x s)] 4)).grown hgrow4 (Ne.symm hne4)
        have hb4 : Below w.heap.size w w4 := (b_alloc hbr3 _).grown hgrow4 (by have := hbr3.size; simp; omega) (fun g hg => (hown3.lt g hg).1)
        have HS2 : Hid (flowNext h l x s = flowLast h l wt (xs.take (k + 1)) ∧ ys ++ [flowNext h l x s] = flowRun h l wt (xs.take (k + 1))) := by
          obtain ⟨e1, e2⟩ := HS.out
          rw [take_snoc EX.out, flowLast_snoc, flowRun_snoc, ← e1, ← e2]
          exact ⟨rfl, rfl⟩
        have hown5 : w4.ownsRow w.heap.size 4 1 v' (k + 1) ((ys ++ [flowNext h l x s]).map Value.bool) := by simpa using hown4
        clear hown4 hgrow4 hown hown3
        go_wp2
        go_roundw
        case rel => exact ⟨k + 1, _, _, by omega, by go_num, rfl, hown5, F4, hb4, HS2⟩
        case measure => simp [intOf]; omega
      · obtain rfl : k = n := by omega
        obtain ⟨A', c', rfl, _, _⟩ := own_form hown
        obtain ⟨e1, e2⟩ := HS.out
        rw [List.take_of_length_le (by have := HX.out; omega)] at e2
        go_wp2
        go_ret
        exact ⟨_, _, _, rfl, by rw [flowRun_length]; exact HX.out.symm, by rw [← e2]; exact hown, hbr⟩
  · rw [flowAll_no (by rw [HX.out]; exact hok)]
    by_cases hn0 : 0 < n ∧ n ≤ 40
    · have hok2 : flowOk h l = false := by
        rw [Bool.eq_false_iff]
        exact fun e => hok ⟨e, hn0.2⟩
      have hn1 : (0 : Int) < n := by omega
      have hn2 : (n : Int) ≤ 40 := by omega
      clear hok
      go_enter Try.func19, Try.ntmps19
      go_wp2
      refine wp_loop_rounds 1 ?_
      rw [rounds_succ]
      go_wp2_with (go_at_call 12; go_must ((with_reducible refine (spec_FlowValid _ _ _).mono ?_); rintro e w2 ⟨rfl, hb2⟩; have hz2 := hb2.size; (try simp at hz2)))
      go_ret
      exact ⟨_, _, _, rfl, rfl, own_below (by simpa using World.ownsRow_lit (w.alloc (.cells #[.int .i64 h, .int .i64 l] 25)) #[] 0 (base := w.heap.size) (e := 4) (size := 1) (by simp) (by unfold maxLen; omega) rfl) hb2, (by repeat (first | (with_reducible exact b_refl _) | (with_reducible refine b_alloc ?_ _) | (with_reducible refine b_drew ?_) | (with_reducible refine b_drewN ?_ _) | (with_reducible refine b_set ?_ ?_ _) | (with_reducible refine b_trans ?_ (by assumption)) | (with_reducible refine b_only ?_ (by assumption) ?_) | omega | (focus (simp; done)) | (focus (simp; omega))))⟩
    · have hn1 : ¬ (0 : Int) < n ∨ ¬ (n : Int) ≤ 40 := by omega
      clear hok
      rcases hn1 with hn1 | hn1
      all_goals
        go_enter Try.func19, Try.ntmps19
        go_wp2
        refine wp_loop_rounds 1 ?_
        rw [rounds_succ]
        go_wp2
        all_goals go_ret
        all_goals exact ⟨_, _, _, rfl, rfl, by simpa using World.ownsRow_lit (w.alloc (.cells #[.int .i64 h, .int .i64 l] 25)) #[] 0 (base := w.heap.size) (e := 4) (size := 1) (by simp) (by unfold maxLen; omega) rfl, (by repeat (first | (with_reducible exact b_refl _) | (with_reducible refine b_alloc ?_ _) | (with_reducible refine b_drew ?_) | (with_reducible refine b_drewN ?_ _) | (with_reducible refine b_set ?_ ?_ _) | (with_reducible refine b_trans ?_ (by assumption)) | (with_reducible refine b_only ?_ (by assumption) ?_) | omega | (focus (simp; done)) | (focus (simp; omega))))⟩
set_option maxHeartbeats 1000000 in
theorem impl_FlowRun (h l : Int) (A : Option Addr) (n c : Nat) (wt : Bool) (xs : List Int) (w : World) (hx : Ints w A n xs) (hn : n ≤ 1099511627776) :
    Calls Try.prog 21 #[.agg #[.int .i64 h, .int .i64 l], .slice A n c, .bool wt] w fun e w' => ∃ (A' : Option Addr) (m c' : Nat), e = .returned (.slice A' m c') ∧ m = (flowAll h l wt xs).length ∧ w'.ownsRow w.heap.size 4 1 (.slice A' m c') m ((flowAll h l wt xs).map Value.bool) ∧ Below w.heap.size w w' := by
  obtain ⟨i0, hi0, j0, j1, j2⟩ := info_parts bool_info
  have HX := Lib.hid hx.len
  have HT : Hid (xs.take n = xs) := List.take_of_length_le (by have := HX.out; omega)
  by_cases hok : flowOk h l = true ∧ n ≤ 40
  · obtain ⟨hok, h40⟩ := hok
    have h40i : ¬ (40 : Int) < n := by omega
    rw [flowAll_yes hok (by have := HX.out; omega)]
    have HO := Lib.hid hok
    go_enter Try.func21, Try.ntmps21
    go_wp2_with (first | (go_at_call 14; go_must ((with_reducible refine (impl_FlowValid _ _ _).mono ?_); rintro e w1 ⟨rfl, hb1⟩; have hz1 := hb1.size; (try simp at hz1); have F1 := (Blk.new _ _ _).below hb1 (by first | omega | (simp; done) | (simp; omega)); have F1l := F1.lt; have F1c0 := F1.cell 0; have F1f0 := F1.frozen 0; have F1c1 := F1.cell 1; have F1f1 := F1.frozen 1; (try simp at F1c0 F1c1))) | (go_at_call 30; go_must ((with_reducible refine (flowFrom_any _ _ _ _).mono ?_); rintro e w2 ⟨rfl, hF, hW, hb2⟩; have hz2 := hb2.size; (try simp at hz2))) | (at_make; go_must (refine wpList_make_own _ rfl _ _ 37 rfl w2.heap.size 4 i0 (.bool false) 1 Try.underlying37 hi0 j0 j1 .i64 .i64 n n rfl rfl rfl (by rw [j2]; omega) (by unfold maxLen; omega) (Nat.le_refl _) ?_); intro w3 hown hgrow3))
    have hb3 : Below w.heap.size w w3 := b_trans (b_trans (b_alloc (b_refl w) _) hb1 |> fun h => b_trans h hb2) ((b_refl w2).grown hgrow3 (Nat.le_refl _) (fun k hk => by cases hk))
    have hWl := hW.lt
    have hz3 := hgrow3.size
    have hF3 := hF.grown hgrow3 (by simp)
    have hW3 := hW.grown hgrow3 (by simp)
    clear hgrow3 hF hW
    have hz1b := hb1.size
    simp at hz1b
    go_loopw [8, 10, 27] (fun v x i wr => ∃ (k : Nat) (s : Bool) (ys : List Bool), k ≤ n ∧ i = .int .i64 k ∧ wr.ownsRow w2.heap.size 4 1 v k (ys.map Value.bool) ∧ Blk wr w1.heap.size 25 #[.int .i64 h, .int .i64 l] ∧ Blk wr (w1.heap.size + 1) 4 #[.bool s] ∧ w3.heap.size ≤ wr.heap.size ∧ Below w.heap.size w wr ∧ Hid (s = flowLast h l wt (xs.take k) ∧ ys = flowRun h l wt (xs.take k))) (fun _ _ i _ => n - (intOf i).toNat)
    case atStart => exact ⟨0, wt, [], Nat.zero_le _, rfl, hown, hF3, hW3, Nat.le_refl _, hb3, rfl, rfl⟩
    case round =>
      obtain ⟨k, s, ys, hk, rfl, hownr, hFr, hWr, hzr, hbr, HS⟩ := hrel
      by_cases hlt : k < n
      · obtain ⟨b, o, x, rfl, hb, ex, hc0⟩ := hx.at_ hlt
        have EX := Lib.hid ex
        have hc := (hbr.cell (p := ⟨b, o + k, none⟩) hb).trans hc0
        clear ex hc0
        go_wp2_with (first | (go_at_call 34; go_must ((with_reducible refine (closure_any h l x s w1.heap.size (w1.heap.size + 1) _ hFr hWr HO.out).mono ?_); rintro e w4 ⟨rfl, hW4, ho4⟩; have hown4 := own_only hownr ho4 (by omega); have hF4 := hFr.grown ho4 (by simp); have hb4 := b_only hbr ho4 (by omega); have hz4 := ho4.size)) | (at_builtin; go_must (refine wpList_append_own _ rfl (.tmp 31) (.tmp 35) 37 rfl w2.heap.size 4 i0 (.bool false) 1 1 Try.underlying37 hi0 j0 j1 j2 rfl (by decide) _ _ _ rfl (hown4.alloc _) ⟨w4.heap.size, 0, none⟩ 1 1 [.bool (flowNext h l x s)] rfl rfl (cell_one_new _ _ _) (fun u hu => by simp at hu; subst hu; rfl) (by unfold maxLen; omega) (by omega) (by simp; omega) ?_); intro v' w5 hown5 hgrow5 _))
        have hne5 := own_blk_ne hown4 hF4 (by decide)
        have hb5 : Below w.heap.size w w5 := (b_alloc hb4 _).grown hgrow5 (by simp; omega) (fun g hg => by have := (hown4.lt g hg).1; omega)
        have F5 := (hF4.alloc (.cells #[.bool (flowNext h l x s)] 4)).grown hgrow5 (Ne.symm hne5)
        have W5 := (hW4.alloc (.cells #[.bool (flowNext h l x s)] 4)).grown hgrow5 (fun e => by have := (hown4.lt _ e.symm).1; omega)
        have hz5 := hgrow5.size
        simp at hz5
        have HS2 : Hid (flowNext h l x s = flowLast h l wt (xs.take (k + 1)) ∧ ys ++ [flowNext h l x s] = flowRun h l wt (xs.take (k + 1))) := by
          obtain ⟨e1, e2⟩ := HS.out
          rw [take_snoc EX.out, flowLast_snoc, flowRun_snoc, ← e1, ← e2]
          exact ⟨rfl, rfl⟩
        have hown6 : w5.ownsRow w2.heap.size 4 1 v' (k + 1) ((ys ++ [flowNext h l x s]).map Value.bool) := by simpa using hown5
        clear hown5 hgrow5 hown4 hownr
        go_wp2
        go_roundw
        case rel => exact ⟨k + 1, _, _, by omega, by go_num, hown6, F5, W5, by omega, hb5, HS2⟩
        case measure => simp [intOf]; omega
      · obtain rfl : k = n := by omega
        obtain ⟨A', c', rfl, _, _⟩ := own_form hownr
        obtain ⟨e1, e2⟩ := HS.out
        rw [HT.out] at e2
        go_wp2
        go_ret
        exact ⟨_, _, _, rfl, by rw [flowRun_length]; exact HX.out.symm, by rw [← e2]; exact own_mono hownr (by omega), hbr⟩
  · rw [flowAll_no (by rw [HX.out]; exact hok)]
    by_cases ho : flowOk h l = true
    · have h40i : (40 : Int) < n := by
        have : ¬ n ≤ 40 := fun e => hok ⟨ho, e⟩
        omega
      clear hok
      go_enter Try.func21, Try.ntmps21
      go_wp2_with (go_at_call 14; go_must ((with_reducible refine (impl_FlowValid _ _ _).mono ?_); rintro e w1 ⟨rfl, hb1⟩; have hz1 := hb1.size; (try simp at hz1)))
      go_ret
      exact ⟨none, 0, 0, rfl, rfl, World.ownsRow_nil _ _ _ _, (by repeat (first | (with_reducible exact b_refl _) | (with_reducible refine b_alloc ?_ _) | (with_reducible refine b_drew ?_) | (with_reducible refine b_drewN ?_ _) | (with_reducible refine b_set ?_ ?_ _) | (with_reducible refine b_trans ?_ (by assumption)) | (with_reducible refine b_only ?_ (by assumption) ?_) | omega | (focus (simp; done)) | (focus (simp; omega))))⟩
    · have ho2 : flowOk h l = false := by simpa using ho
      clear hok ho
      go_enter Try.func21, Try.ntmps21
      go_wp2_with (go_at_call 14; go_must ((with_reducible refine (impl_FlowValid _ _ _).mono ?_); rintro e w1 ⟨rfl, hb1⟩; have hz1 := hb1.size; (try simp at hz1)))
      go_ret
      exact ⟨none, 0, 0, rfl, rfl, World.ownsRow_nil _ _ _ _, (by repeat (first | (with_reducible exact b_refl _) | (with_reducible refine b_alloc ?_ _) | (with_reducible refine b_drew ?_) | (with_reducible refine b_drewN ?_ _) | (with_reducible refine b_set ?_ ?_ _) | (with_reducible refine b_trans ?_ (by assumption)) | (with_reducible refine b_only ?_ (by assumption) ?_) | omega | (focus (simp; done)) | (focus (simp; omega))))⟩
set_option maxHeartbeats 2000000 in
theorem DrawFlowRun_any (A : Option Addr) (n c : Nat) (w : World) (hC : Code w A n c) : Calls Try.prog 27 #[.slice A n c] w fun e w' => ∃ (h l : Int) (A' : Option Addr) (m c' : Nat) (b : Bool) (xs : List Int), e = .returned (.tuple #[.agg #[.int .i64 h, .int .i64 l], .slice A' m c', .bool b]) ∧ m ≤ 41 ∧ w'.ownsRow w.heap.size 3 1 (.slice A' m c') m (xs.map (Value.int .i64)) ∧ Below w.heap.size w w' := by
  obtain ⟨i0, hi0, j0, j1, j2⟩ := info_parts int_info
  go_enter Try.func27, Try.ntmps27
  go_wp2_with (first | (go_at_call 32; go_must ((with_reducible refine (open_any _ _ _ _ (hC.alloc _)).mono ?_); rintro e w1 ⟨rb, rfl, hrb, hr1, hb1⟩; (try simp at hrb); have hrl := hr1.lt; have hz1 := hb1.size; (try simp at hz1); have R1 := (Blk.new _ _ _).below hb1 (by first | omega | (simp; done) | (simp; omega)); have R1l := R1.lt; have R1c0 := R1.cell 0; have R1f0 := R1.frozen 0; have R1c1 := R1.cell 1; have R1f1 := R1.frozen 1; (try simp at R1c0 R1c1))) | (go_at_call 31; go_must ((with_reducible refine (l92Flow_any rb 0 _ ?_ (by omega)).mono ?_); (exact (by repeat (first | (with_reducible assumption) | (with_reducible refine Rd.at_ ?_ ?_) | (with_reducible refine Rds.at_ ?_ ?_) | (with_reducible refine Rd.drew ?_) | (with_reducible refine Rd.drewN ?_ _) | (with_reducible refine Rd.alloc ?_ _) | (with_reducible refine Rds.drew ?_) | (with_reducible refine Rds.drewN ?_ _) | (with_reducible refine Rds.alloc ?_ _) | (with_reducible refine Rd.setCell ?_ ?_ _) | (with_reducible refine Rds.setCell ?_ ?_ _) | (with_reducible refine Rd.some (by assumption)) | omega | (focus (simp; done)) | (focus (simp; omega))))); rintro e w2 ⟨h, l, rfl, ⟨q, hr2, hq1, hq2⟩, ho2⟩; have hz2 := ho2.size; (try simp at hz2); have R2 := (R1).grown ho2 (by first | omega | (simp; done) | (simp; omega)); have R2l := R2.lt; have R2c0 := R2.cell 0; have R2f0 := R2.frozen 0; have R2c1 := R2.cell 1; have R2f1 := R2.frozen 1; (try simp at R2c0 R2c1))) | (go_at_call_of 33 (Value.int IntKind.i64 12); go_must ((with_reducible refine (pick_any rb (q) 12 _ ?_ (by omega) (by omega)).mono ?_); (exact (by repeat (first | (with_reducible assumption) | (with_reducible refine Rd.at_ ?_ ?_) | (with_reducible refine Rds.at_ ?_ ?_) | (with_reducible refine Rd.drew ?_) | (with_reducible refine Rd.drewN ?_ _) | (with_reducible refine Rd.alloc ?_ _) | (with_reducible refine Rds.drew ?_) | (with_reducible refine Rds.drewN ?_ _) | (with_reducible refine Rds.alloc ?_ _) | (with_reducible refine Rd.setCell ?_ ?_ _) | (with_reducible refine Rds.setCell ?_ ?_ _) | (with_reducible refine Rd.some (by assumption)) | omega | (focus (simp; done)) | (focus (simp; omega))))); rintro e w3 ⟨v3, rfl, hv3, hu3, hr3, ho3⟩; have hz3 := ho3.size; (try simp at hz3); have R3 := ((R2.alloc _).alloc _).grown ho3 (by first | omega | (simp; done) | (simp; omega)); have R3l := R3.lt; have R3c0 := R3.cell 0; have R3f0 := R3.frozen 0; have R3c1 := R3.cell 1; have R3f1 := R3.frozen 1; (try simp at R3c0 R3c1); have F3 := ((Blk.new _ _ _).alloc _).grown ho3 (by first | omega | (simp; done) | (simp; omega)); have F3l := F3.lt; have F3c0 := F3.cell 0; have F3f0 := F3.frozen 0; have F3c1 := F3.cell 1; have F3f1 := F3.frozen 1; (try simp at F3c0 F3c1))) | (go_at_call_of 33 (Value.int IntKind.i64 24); go_must ((with_reducible refine (pick_any rb (q + 1) 24 _ ?_ (by omega) (by omega)).mono ?_); (exact (by repeat (first | (with_reducible assumption) | (with_reducible refine Rd.at_ ?_ ?_) | (with_reducible refine Rds.at_ ?_ ?_) | (with_reducible refine Rd.drew ?_) | (with_reducible refine Rd.drewN ?_ _) | (with_reducible refine Rd.alloc ?_ _) | (with_reducible refine Rds.drew ?_) | (with_reducible refine Rds.drewN ?_ _) | (with_reducible refine Rds.alloc ?_ _) | (with_reducible refine Rd.setCell ?_ ?_ _) | (with_reducible refine Rds.setCell ?_ ?_ _) | (with_reducible refine Rd.some (by assumption)) | omega | (focus (simp; done)) | (focus (simp; omega))))); rintro e w4 ⟨v4, rfl, hv4, hu4, hr4, ho4⟩; have hz4 := ho4.size; (try simp at hz4); have R4 := (R3).grown ho4 (by first | omega | (simp; done) | (simp; omega)); have R4l := R4.lt; have R4c0 := R4.cell 0; have R4f0 := R4.frozen 0; have R4c1 := R4.cell 1; have R4f1 := R4.frozen 1; (try simp at R4c0 R4c1); have F4 := (F3).grown ho4 (by first | omega | (simp; done) | (simp; omega)); have F4l := F4.lt; have F4c0 := F4.cell 0; have F4f0 := F4.frozen 0; have F4c1 := F4.cell 1; have F4f1 := F4.frozen 1; (try simp at F4c0 F4c1))) | (go_at_call_of 33 (Value.int IntKind.i64 2); go_must ((with_reducible refine (pick_any rb (q + 2) 2 _ ?_ (by omega) (by omega)).mono ?_); (exact (by repeat (first | (with_reducible assumption) | (with_reducible refine Rd.at_ ?_ ?_) | (with_reducible refine Rds.at_ ?_ ?_) | (with_reducible refine Rd.drew ?_) | (with_reducible refine Rd.drewN ?_ _) | (with_reducible refine Rd.alloc ?_ _) | (with_reducible refine Rds.drew ?_) | (with_reducible refine Rds.drewN ?_ _) | (with_reducible refine Rds.alloc ?_ _) | (with_reducible refine Rd.setCell ?_ ?_ _) | (with_reducible refine Rds.setCell ?_ ?_ _) | (with_reducible refine Rd.some (by assumption)) | omega | (focus (simp; done)) | (focus (simp; omega))))); rintro e w5 ⟨v5, rfl, hv5, hu5, hr5, ho5⟩; have hz5 := ho5.size; (try simp at hz5); have R5 := (R4).grown ho5 (by first | omega | (simp; done) | (simp; omega)); have R5l := R5.lt; have R5c0 := R5.cell 0; have R5f0 := R5.frozen 0; have R5c1 := R5.cell 1; have R5f1 := R5.frozen 1; (try simp at R5c0 R5c1); have F5 := (F4).grown ho5 (by first | omega | (simp; done) | (simp; omega)); have F5l := F5.lt; have F5c0 := F5.cell 0; have F5f0 := F5.frozen 0; have F5c1 := F5.cell 1; have F5f1 := F5.frozen 1; (try simp at F5c0 F5c1))))
  all_goals
    first | (rename (v4 == 0) = false => hq4; clear hq4) | (rename (v4 == 0) = true => hq4; clear hq4)
    go_loopw [7, 9] (fun v i wr => ∃ (k p : Nat) (ys : List Int), k ≤ 41 ∧ i = .int .i64 k ∧ wr.ownsRow (w2.heap.size + 1) 3 1 v k (ys.map (Value.int .i64)) ∧ Rd wr rb p ∧ p ≤ q + 3 + k ∧ Blk wr w.heap.size 25 #[.int .i64 0, .int .i64 0] ∧ Blk wr w2.heap.size 25 #[.int .i64 h, .int .i64 l] ∧ Below w.heap.size w wr) (fun _ i _ => 42 - (intOf i).toNat)
    case atStart =>
      have hown : ((w2.alloc (.cells #[.int .i64 h, .int .i64 l] 25)).alloc (.cells #[] 3)).ownsRow (w2.heap.size + 1) 3 1 (.slice (some ⟨w2.heap.size + 1, 0, none⟩) 0 0) 0 (([] : List Int).map (Value.int .i64)) := by simpa using World.ownsRow_lit (w2.alloc (.cells #[.int .i64 h, .int .i64 l] 25)) #[] 0 (base := w2.heap.size + 1) (e := 3) (size := 1) (by simp) (by unfold maxLen; omega) rfl
      first
        | exact ⟨0, _, [], by omega, rfl, own_only (own_only (own_only hown ho3 (by omega)) ho4 (by omega)) ho5 (by omega), hr5, by omega, R5, F5, (by repeat (first | (with_reducible exact b_refl _) | (with_reducible refine b_alloc ?_ _) | (with_reducible refine b_drew ?_) | (with_reducible refine b_drewN ?_ _) | (with_reducible refine b_set ?_ ?_ _) | (with_reducible refine b_trans ?_ (by assumption)) | (with_reducible refine b_only ?_ (by assumption) ?_) | omega | (focus (simp; done)) | (focus (simp; omega))))⟩
        | exact ⟨0, _, [], by omega, rfl, own_only (own_only hown ho3 (by omega)) ho4 (by omega), hr4, by omega, R4, F4, (by repeat (first | (with_reducible exact b_refl _) | (with_reducible refine b_alloc ?_ _) | (with_reducible refine b_drew ?_) | (with_reducible refine b_drewN ?_ _) | (with_reducible refine b_set ?_ ?_ _) | (with_reducible refine b_trans ?_ (by assumption)) | (with_reducible refine b_only ?_ (by assumption) ?_) | omega | (focus (simp; done)) | (focus (simp; omega))))⟩
    case round =>
      obtain ⟨k, p, ys, hk, rfl, hown, hr, hp, hR, hF, hbr⟩ := hrel
      have hRl := hR.lt
      have hFl := hF.lt
      have hrl2 := hr.lt
      go_wp2_with (first | (go_at_call_of 33 (Value.int IntKind.i64 22); go_must ((with_reducible refine (pick_any rb (p) 22 _ ?_ (by omega) (by omega)).mono ?_); (exact (by repeat (first | (with_reducible assumption) | (with_reducible refine Rd.at_ ?_ ?_) | (with_reducible refine Rds.at_ ?_ ?_) | (with_reducible refine Rd.drew ?_) | (with_reducible refine Rd.drewN ?_ _) | (with_reducible refine Rd.alloc ?_ _) | (with_reducible refine Rds.drew ?_) | (with_reducible refine Rds.drewN ?_ _) | (with_reducible refine Rds.alloc ?_ _) | (with_reducible refine Rd.setCell ?_ ?_ _) | (with_reducible refine Rds.setCell ?_ ?_ _) | (with_reducible refine Rd.some (by assumption)) | omega | (focus (simp; done)) | (focus (simp; omega))))); rintro e w6 ⟨v6, rfl, hv6, hu6, hr6, ho6⟩; have hz6 := ho6.size; (try simp at hz6); have R6 := (hR).grown ho6 (by first | omega | (simp; done) | (simp; omega)); have R6l := R6.lt; have R6c0 := R6.cell 0; have R6f0 := R6.frozen 0; have R6c1 := R6.cell 1; have R6f1 := R6.frozen 1; (try simp at R6c0 R6c1); have F6 := (hF).grown ho6 (by first | omega | (simp; done) | (simp; omega)); have F6l := F6.lt; have F6c0 := F6.cell 0; have F6f0 := F6.frozen 0; have F6c1 := F6.cell 1; have F6f1 := F6.frozen 1; (try simp at F6c0 F6c1); have hown6 := own_only hown ho6 (by omega))) | (at_builtin; go_must (refine wpList_append_own _ rfl (.tmp 29) (.tmp 32) 36 rfl (w2.heap.size + 1) 3 i0 (.int .i64 0) 1 8 Try.underlying36 hi0 j0 j1 j2 rfl (by decide) _ _ _ rfl (hown6.alloc _) ⟨w6.heap.size, 0, none⟩ 1 1 [.int .i64 v6] rfl rfl (cell_one_new _ _ _) (fun u hu => by simp at hu; subst hu; rfl) (by unfold maxLen; omega) (by omega) (by simp; omega) ?_); intro v' w7 hown7 hgrow7 _))
      · have hb7 : Below w.heap.size w w7 := (b_alloc (b_only hbr ho6 (by omega)) _).grown hgrow7 (by simp; omega) (fun g hg => by have := (hown6.lt g hg).1; omega)
        have R7 := (R6.alloc (.cells #[.int .i64 v6] 3)).grown hgrow7 (fun e => by have := (hown6.lt _ e.symm).1; omega)
        have F7 := (F6.alloc (.cells #[.int .i64 v6] 3)).grown hgrow7 (fun e => by have := (hown6.lt _ e.symm).1; omega)
        have hr7 := (hr6.alloc (.cells #[.int .i64 v6] 3)).grown hgrow7 (fun g hg => by have := (hown6.lt g hg).1; omega)
        have hown8 : w7.ownsRow (w2.heap.size + 1) 3 1 v' (k + 1) ((ys ++ [v6]).map (Value.int .i64)) := by simpa using hown7
        clear hown7 hgrow7 hown hown6
        go_roundw
        case rel => exact ⟨k + 1, _, _, by omega, by go_num, hown8, hr7, by omega, R7, F7, hb7⟩
        case measure => simp [intOf]; omega
      · have hne : ¬ w2.heap.size = rb := by omega
        have f0 := hF.cell 0
        have f1 := hF.cell 1
        have r0 := hR.cell 0
        have r1 := hR.cell 1
        have rf0 := hR.frozen 0
        have rf1 := hR.frozen 1
        simp at f0 f1 r0 r1
        go_region_held3 (fun w' => w'.cell? ⟨w2.heap.size, 0, none⟩ = some (.int .i64 h) ∧ w'.cell? ⟨w2.heap.size, 1, none⟩ = some (.int .i64 l)) (first | (go_simp; done) | (go_keep; done)) (first | (go_at_call_of 33 (Value.int IntKind.i64 2); go_must ((with_reducible refine (pick_any rb (p) 2 _ ?_ (by omega) (by omega)).mono ?_); (exact (by repeat (first | (with_reducible assumption) | (with_reducible refine Rd.at_ ?_ ?_) | (with_reducible refine Rds.at_ ?_ ?_) | (with_reducible refine Rd.drew ?_) | (with_reducible refine Rd.drewN ?_ _) | (with_reducible refine Rd.alloc ?_ _) | (with_reducible refine Rds.drew ?_) | (with_reducible refine Rds.drewN ?_ _) | (with_reducible refine Rds.alloc ?_ _) | (with_reducible refine Rd.setCell ?_ ?_ _) | (with_reducible refine Rds.setCell ?_ ?_ _) | (with_reducible refine Rd.some (by assumption)) | omega | (focus (simp; done)) | (focus (simp; omega))))); rintro e w8 ⟨v8, rfl, hv8, hu8, hr8, ho8⟩; have hz8 := ho8.size; (try simp at hz8); have R8 := (hR.drew).grown ho8 (by first | omega | (simp; done) | (simp; omega)); have R8l := R8.lt; have R8c0 := R8.cell 0; have R8f0 := R8.frozen 0; have R8c1 := R8.cell 1; have R8f1 := R8.frozen 1; (try simp at R8c0 R8c1); have F8 := (hF.drew).grown ho8 (by first | omega | (simp; done) | (simp; omega)); have F8l := F8.lt; have F8c0 := F8.cell 0; have F8f0 := F8.frozen 0; have F8c1 := F8.cell 1; have F8f1 := F8.frozen 1; (try simp at F8c0 F8c1))))
        obtain ⟨A', c', hv, _, _⟩ := own_form hown
        subst hv
        have hown8 := own_only hown.drew ho8 (by omega)
        go_wp2
        have hb8 := b_only (b_drew hbr) ho8 (by omega)
        refine bodyPost_ret (by simp [results, Try.results27, go_sem, *]; repeat (first | exact rfl | refine And.intro ?_ ?_)) rfl ⟨_, _, _, _, _, _, ys, rfl, by omega, own_mono (ownsRow_setCell_below (ownsRow_setCell_below hown8 (by simp; omega) _) (by simp; omega) _) (by omega), (by repeat (first | (with_reducible exact b_refl _) | (with_reducible refine b_alloc ?_ _) | (with_reducible refine b_drew ?_) | (with_reducible refine b_drewN ?_ _) | (with_reducible refine b_set ?_ ?_ _) | (with_reducible refine b_trans ?_ (by assumption)) | (with_reducible refine b_only ?_ (by assumption) ?_) | omega | (focus (simp; done)) | (focus (simp; omega))))⟩
end Go.Proofs.Ytgnoceofabkfcaa

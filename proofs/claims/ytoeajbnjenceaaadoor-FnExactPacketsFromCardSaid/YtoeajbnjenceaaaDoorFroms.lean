/-
  PACKETS OUT OF BYTES: PacketsFrom (the reference's and the program's). Condition: at most 2^20 elements; the program's: the library's variable errorType holds its handle.
-/
import Derived.Test.YtoeajbnjenceaaaDoorUnpack
import Derived.Test.YtoeajbnjenceaaaDoorListsMore
import Derived.Test.YtoeajbnjenceaaaDoorAs
set_option linter.unusedVariables false
set_option linter.unusedSimpArgs false
namespace Go.Proofs.YtoeajbnjenceaaaDoor
open Go.ChangeShapes Go.WideShapes Go.ChangeAt Go.RowKit

/-- What was read so far: the packets, how many were damaged, the bytes since the last end. -/
def pstep (s : List (List Int) × Nat × List Int) (b : Int) : List (List Int) × Nat × List Int :=
  if b = 192 then (match unpack s.2.2 with
    | none => (s.1, s.2.1 + 1, [])
    | some [] => (s.1, s.2.1, [])
    | some (x :: r) => (s.1 ++ [x :: r], s.2.1, []))
  else (s.1, s.2.1, s.2.2 ++ [b])
def pst (xs : List Int) : List (List Int) × Nat × List Int := xs.foldl pstep ([], 0, [])
theorem pst_take {xs : List Int} {k : Nat} {x : Int} (hx : xs[k]? = some x) : pst (xs.take (k + 1)) = pstep (pst (xs.take k)) x := by
  rw [List.take_add_one, hx]
  simp [pst]
theorem take_drop_all (xs : List Int) (k : Nat) : (xs.take k).drop k = [] := List.drop_eq_nil_of_le (by simp; omega)
section
variable {xs : List Int} {k j bad : Nat} {ps : List (List Int)}
theorem pst_other {x : Int} (h : pst (xs.take k) = (ps, bad, (xs.take k).drop j)) (hx : xs[k]? = some x) (hn : x ≠ 192) (hj : j ≤ k) : pst (xs.take (k + 1)) = (ps, bad, (xs.take (k + 1)).drop j) := by
  rw [pst_take hx, h, pstep, if_neg hn, List.take_add_one, hx]
  have hk := (List.getElem?_eq_some_iff.1 hx).1
  simp only [Option.toList, List.drop_append, List.length_take, Nat.min_eq_left (Nat.le_of_lt hk), Nat.sub_eq_zero_of_le hj, List.drop_zero]
theorem pst_bad (h : pst (xs.take k) = (ps, bad, (xs.take k).drop j)) (hx : xs[k]? = some 192) (hu : unpack ((xs.take k).drop j) = none) : pst (xs.take (k + 1)) = (ps, bad + 1, (xs.take (k + 1)).drop (k + 1)) := by
  rw [pst_take hx, h, pstep, if_pos rfl, take_drop_all]
  simp only [hu]
theorem pst_void (h : pst (xs.take k) = (ps, bad, (xs.take k).drop j)) (hx : xs[k]? = some 192) (hu : unpack ((xs.take k).drop j) = some []) : pst (xs.take (k + 1)) = (ps, bad, (xs.take (k + 1)).drop (k + 1)) := by
  rw [pst_take hx, h, pstep, if_pos rfl, take_drop_all]
  simp only [hu]
theorem pst_one {p : List Int} (h : pst (xs.take k) = (ps, bad, (xs.take k).drop j)) (hx : xs[k]? = some 192) (hu : unpack ((xs.take k).drop j) = some p) (hp : p ≠ []) : pst (xs.take (k + 1)) = (ps ++ [p], bad, (xs.take (k + 1)).drop (k + 1)) := by
  rw [pst_take hx, h, pstep, if_pos rfl, take_drop_all]
  cases p with
  | nil => exact absurd rfl hp
  | cons y r => simp only [hu]
end
def fok (xs : List Int) : Bool := bytesOk xs && decide (xs.length ≤ 450)
def fout (xs : List Int) : List (List Int) := if fok xs = true then (pst xs).1 else []
def fbad (xs : List Int) : Int := if fok xs = true then ((pst xs).2.1 : Int) else -1
def frest (xs : List Int) : List Int := if fok xs = true then (pst xs).2.2 else []
/-- What PacketsFrom leaves: rows of the call's own. -/
def FGives (xss : List (List Int)) (rest : List Int) (z : Int) (w : World) (e : Ending) (w' : World) : Prop :=
  ∃ (A : Option Addr) (n c : Nat) (ss : List Sl) (B : Option Addr) (m d : Nat), e = .returned (.tuple #[.slice A n c, .slice B m d, .int .i64 z]) ∧ OwnLists w' w.heap.size (.slice A n c) n ss xss ∧
    w'.ownsRow w.heap.size 3 1 (.slice B m d) m (rest.map (Value.int .i64)) ∧ (∃ mid : Nat, w.heap.size ≤ mid ∧ w'.ownsRow mid 3 1 (.slice B m d) m (rest.map (Value.int .i64)) ∧ ∀ (k : Nat) (t : Sl) (g : Nat), ss[k]? = some t → (slv t).ownBlock = some g → g < mid) ∧ Below w.heap.size w w'
theorem asHit_new (e : Nat) (w : World) (h : ErrT w) :
    Calls Tryd.prog 32 #[.iface 44 (.pointer (some ⟨e, 0, none⟩)), .iface 46 (.pointer (some ⟨w.heap.size, 0, none⟩))] (w.alloc (.cells #[.pointer none] 44)) fun ev w' => ev = .returned (.bool true) ∧ Below w.heap.size w w' := by
  have hF := Blk.new w 44 #[.pointer none]
  refine (asHit ⟨e, 0, none⟩ ⟨w.heap.size, 0, none⟩ (.pointer none) _ (h.alloc _) (hF.cell 0) (hF.frozen 0)).mono fun ev w' hh => ⟨hh.1, ?_⟩
  exact b_only (b_alloc (b_refl w) _) hh.2 (Nat.le_refl _)
theorem asNil_new (t : Value) (w : World) : Calls Tryd.prog 32 #[.nilIface, t] w fun ev w' => ev = .returned (.bool false) ∧ Below w.heap.size w w' :=
  (asNil t w).mono fun ev w' h => ⟨h.1, by rw [h.2]; exact b_refl _⟩
theorem packetFrom_no (A : Option Addr) (n c : Nat) (xs : List Int) (w : World) (hx : Ints w A n xs) (hn : n ≤ 1048576) (h : unpack xs = none) :
    Calls Tryd.prog 31 #[.slice A n c] w fun e w' => ∃ g : Nat, e = .returned (.tuple #[.slice none 0 0, .iface 44 (.pointer (some ⟨g, 0, none⟩))]) ∧ Below w.heap.size w w' :=
  (packetFrom_any A n c xs w hx hn).mono fun e w' k => by unfold UnErr at k; rw [h] at k; exact k
theorem packetFrom_yes (A : Option Addr) (n c : Nat) (xs p : List Int) (w : World) (hx : Ints w A n xs) (hn : n ≤ 1048576) (h : unpack xs = some p) :
    Calls Tryd.prog 31 #[.slice A n c] w fun e w' => ∃ (A : Option Addr) (m c : Nat), e = .returned (.tuple #[.slice A m c, .nilIface]) ∧ m = p.length ∧ w'.ownsRow w.heap.size 3 1 (.slice A m c) m (p.map (Value.int .i64)) ∧ m ≤ c ∧ c ≤ maxLen ∧ Below w.heap.size w w' :=
  (packetFrom_any A n c xs w hx hn).mono fun e w' k => by unfold UnErr at k; rw [h] at k; exact k
theorem l31From_no (A : Option Addr) (n c : Nat) (xs : List Int) (w : World) (hx : Ints w A n xs) (hn : n ≤ 1048576) (h : unpack xs = none) :
    Calls Tryd.prog 29 #[.slice A n c] w fun e w' => ∃ v, e = .returned (.tuple #[v, .bool false]) ∧ Below w.heap.size w w' :=
  (l31From_any A n c xs w hx hn).mono fun e w' k => by unfold UnGives at k; rw [h] at k; exact k
theorem l31From_yes (A : Option Addr) (n c : Nat) (xs p : List Int) (w : World) (hx : Ints w A n xs) (hn : n ≤ 1048576) (h : unpack xs = some p) :
    Calls Tryd.prog 29 #[.slice A n c] w (Gives p true w) :=
  (l31From_any A n c xs w hx hn).mono fun e w' k => by unfold UnGives at k; rw [h] at k; exact k
theorem ints_void (w : World) (A : Option Addr) : Ints w A 0 [] := ⟨by simp, fun h => absurd h (by omega)⟩
/-- The rows so far, one row more. -/
theorem more_rows {w w' : World} {base n m c : Nat} {v : Value} {ss : List Sl} {ps : List (List Int)} {p : List Int} {A : Option Addr} {o : Obj} (hown : w.ownsRow base 22 1 v n (ss.map slv)) (hows : Owns w base ss ps) {lo : Nat} (own2 : w.ownsRow lo 3 1 (.slice A m c) m (p.map (Value.int .i64)))
    (hlo : ∀ (j : Nat) (t : Sl) (g : Nat), ss[j]? = some t → (slv t).ownBlock = some g → g < lo) (hb : base ≤ lo) (ho3 : (w.alloc o).grownBy w' v.ownBlock) : Owns w' base (ss ++ [(A, m, c)]) (ps ++ [p]) := by
  have h1 := (hows.alloc o).kept ho3 (fun j s hs => by
    obtain ⟨ys, _, hy⟩ := hows.get hs
    exact own_other hy hown (by decide))
  have h2 : w'.ownsRow lo 3 1 (slv (A, m, c)) m (p.map (Value.int .i64)) := (own2.alloc o).kept ho3 (own_other own2 hown (by decide))
  refine h1.snoc (own_mono h2 hb) fun j t hj => ?_
  rcases hgb : (slv (A, m, c)).ownBlock with _ | g
  · exact .inl rfl
  · refine .inr (fun e => ?_)
    have h3 := (own2.lt g hgb).1
    have h4 := hlo j t g hj e.symm
    omega
set_option maxRecDepth 4000 in
set_option maxHeartbeats 4000000 in
theorem spec_PacketsFrom_ok (A : Option Addr) (n c : Nat) (xs : List Int) (w : World) (hx : Ints w A n xs) (hnc : n ≤ c) (hcm : c ≤ maxLen) (hn : n ≤ 450) (hby : bytesOk xs = true) :
    Calls Tryd.prog 10 #[.slice A n c] w (FGives (pst xs).1 (pst xs).2.2 ((pst xs).2.1 : Int) w) := by
  have HX := Lib.hid hx.len
  have hn1 : ¬ 450 < (n : Int) := by omega
  have hnc2 : (n : Int) ≤ (c : Int) := by omega
  unfold maxLen at hcm
  go_enter Tryd.func10, Tryd.ntmps10
  go_wp2_with (go_at_call 28; refine (l4Bytes_any _ _ _ _ _ (hx.alloc _) (by omega)).mono ?_; rintro e w' ⟨rfl, rfl⟩)
  clear hby
  go_loopw [5, 6, 7, 8] (fun v d f i wr => ∃ (k j bad : Nat) (ss : List Sl) (ps : List (List Int)), j ≤ k ∧ k ≤ n ∧ bad ≤ k ∧ ss.length ≤ k ∧ i = .int .i64 k ∧ f = .int .i64 j ∧ d = .int .i64 bad ∧ wr.ownsRow w.heap.size 22 1 v ss.length (ss.map slv) ∧ Owns wr w.heap.size ss ps ∧ Below w.heap.size w wr ∧ Hid (pst (xs.take k) = (ps, bad, (xs.take k).drop j))) (fun _ _ _ i _ => n - (intOf i).toNat)
  case atStart => exact ⟨0, 0, 0, [], [], Nat.le_refl _, Nat.zero_le _, Nat.le_refl _, Nat.le_refl _, rfl, rfl, rfl, ownS_empty w w.heap.size (Nat.le_refl _), Owns.nil _ _, (by repeat (first | (with_reducible exact b_refl _) | (with_reducible refine b_alloc ?_ _) | (with_reducible refine b_drew ?_) | (with_reducible refine b_drewN ?_ _) | (with_reducible refine b_set ?_ ?_ _) | (with_reducible refine b_trans ?_ (by assumption)) | (with_reducible refine b_only ?_ (by assumption) ?_) | omega | (focus (simp; done)) | (focus (simp; omega)))), rfl⟩
  case round =>
    obtain ⟨k, j, bad, ss, ps, hj, hk, hbk, hsk, rfl, rfl, rfl, hown, hows, hbr, HY⟩ := hrel
    have hsz := hbr.size
    have hjk : (j : Int) ≤ (k : Int) := by omega
    by_cases hlt : k < n
    · obtain ⟨b, o, x, rfl, hb, ex, hc0⟩ := hx.at_ hlt
      have hc := (hbr.cell (p := ⟨b, o + k, none⟩) hb).trans hc0
      have EX := Lib.hid ex
      have hkc : (k : Int) ≤ (c : Int) := by omega
      have hcj : ¬ c = j := by omega
      have hcj2 : ¬ j = c := by omega
      clear ex hc0
      by_cases h1 : x = 192
      · subst h1
        have hxs := ((hx.take (Nat.le_of_lt hlt)).drop hj).below hbr
        rcases hU : unpack ((xs.take k).drop j) with _ | p
        · have HU := Lib.hid hU
          go_wp2_with fail
          (with_reducible refine (l31From_no _ _ _ _ _ hxs (by omega) hU).mono ?_); rintro e w1 ⟨g, rfl, hb1⟩; have hz1 := hb1.size; (try simp at hz1)
          clear hU
          have hown2 := own_below hown hb1
          have hows2 := hows.below hb1
          have hbr2 := b_trans hbr hb1
          go_wp2
          go_roundw
          case rel => exact ⟨k + 1, k + 1, bad + 1, ss, ps, Nat.le_refl _, by omega, by omega, by omega, by go_num, by go_num, by go_num, hown2, hows2, hbr2, pst_bad HY.out EX.out HU.out⟩
          case measure => simp [intOf]; omega
        · have HU := Lib.hid hU
          go_wp2_with fail
          (with_reducible refine (l31From_yes _ _ _ _ _ _ hxs (by omega) hU).mono ?_); rintro e w1 ⟨A1, m1, c1, rfl, hm1, ho1, hc1, hd1, hb1⟩; have hz1 := hb1.size; (try simp at hz1)
          clear hU
          have HM := Lib.hid hm1
          clear hm1
          have hown1 := own_below hown hb1
          have hows1 := hows.below hb1
          have hbr1 := b_trans hbr hb1
          have hs1 := hb1.size
          have hown2 := hown1
          have hows2 := hows1
          have hbr2 := hbr1
          have ho2 := ho1
          have hs2 := hs1
          by_cases hm0 : m1 = 0
          · subst hm0
            have HP : Hid (unpack ((xs.take k).drop j) = some []) := by
              show _ = _
              rw [HU.out, List.eq_nil_of_length_eq_zero HM.out.symm]
            go_wp2
            go_roundw
            case rel => exact ⟨k + 1, k + 1, bad, ss, ps, Nat.le_refl _, by omega, by omega, by omega, by go_num, by go_num, by go_num, hown2, hows2, hbr2, pst_void HY.out EX.out HP.out⟩
            case measure => simp [intOf]; omega
          · have hm2 : 0 < (m1 : Int) := by omega
            have HP : Hid (p ≠ []) := by
              show _ ≠ _
              rintro rfl
              exact hm0 (by have := HM.out; simpa using this)
            have hlo : Hid (∀ (j : Nat) (t : Sl) (g : Nat), ss[j]? = some t → (slv t).ownBlock = some g → g < wr.heap.size) := fun j t g h1 h2 => (hows.lt h1 h2).2
            clear hm0
            go_wp2_with (at_builtin; refine at_app (.tmp 51) (.tmp 53) rfl ?_; go_must (refine wpList_appS ((own_lift hown2 (by repeat (first | (with_reducible exact hown2) | (with_reducible refine World.ownsRow.drew ?_) | (with_reducible refine own_drewN ?_ _) | (with_reducible refine World.ownsRow.alloc ?_ _) | (with_reducible refine own_below ?_ (by assumption)))))) (Reads.litS [(A1, m1, c1)] (Blk.new _ _ _)) rfl (.tmp 51) (.tmp 53) rfl rfl rfl (ss.length + 1) (by first | omega | (simp; done) | (simp; omega)) (by first | omega | (simp; done) | (simp; omega)) (by first | omega | (simp; done) | (simp; omega)) ?_; intro A3 c3 w3 own3 ho3 hat3 hc3 hd3; (try simp only [List.nil_append] at own3); have hz3 := ho3.size; (try simp at hz3)))
            go_roundw
            case rel => exact ⟨k + 1, k + 1, bad, ss ++ [(A1, m1, c1)], ps ++ [p], Nat.le_refl _, by omega, by omega, by simp; omega, by go_num, by go_num, by go_num, by simpa using own3, more_rows hown2 hows2 ho2 hlo.out hsz ho3, b_own (b_alloc hbr2 _) ho3 (fun g hg => (hown2.lt g hg).1), pst_one HY.out EX.out HU.out HP.out⟩
            case measure => simp [intOf]; omega
      · have e1 : (x == 192) = false := by simpa using h1
        have e2 : (x != 192) = true := by simpa using h1
        have HP := Lib.hid (pst_other HY.out EX.out h1 hj)
        clear h1
        go_wp2
        go_roundw
        case rel => exact ⟨k + 1, j, bad, ss, ps, by omega, by omega, by omega, by omega, by go_num, by go_num, by go_num, hown, hows, hbr, HP.out⟩
        case measure => simp [intOf]; omega
    · obtain rfl : k = n := by omega
      have HZ : Hid (pst xs = (ps, bad, xs.drop j)) := by
        have h := HY.out
        rwa [List.take_of_length_le (by have := HX.out; omega)] at h
      have HL : Hid ((xs.drop j).length = k - j) := by show _ = _; rw [List.length_drop]; have := HX.out; omega
      have hjc : (j : Int) ≤ (c : Int) := by omega
      obtain ⟨A9, c9, rfl, hc9, hd9⟩ := own_form hown
      clear HY
      have fin : ∀ (B : Option Addr) (d : Nat) (w3 : World) (r : Option Nat), w3.ownsRow wr.heap.size 3 1 (.slice B (k - j) d) (k - j) ((xs.drop j).map (Value.int .i64)) → Below wr.heap.size wr w3 → FGives (pst xs).1 (pst xs).2.2 ((pst xs).2.1 : Int) w (.returned (.tuple #[.slice A9 ss.length c9, .slice B (k - j) d, .int .i64 bad])) w3 := by
        intro B d w3 r h1 h2
        rw [HZ.out]
        exact ⟨A9, ss.length, c9, ss, B, k - j, d, rfl, ⟨own_below hown h2, hows.below h2⟩, own_mono h1 hsz, ⟨wr.heap.size, hsz, h1, fun i t g ht hg => (hows.lt ht hg).2⟩, b_trans hbr h2⟩
      have FIN := Lib.hid fin
      clear fin
      by_cases hn0 : k = 0
      · have hj0 : j = 0 := by omega
        subst hj0
        subst hn0
        have HV : Hid (xs.drop 0 = []) := List.eq_nil_of_length_eq_zero HL.out
        have FIN2 : Hid (∀ (B : Option Addr) (d : Nat) (w3 : World), w3.ownsRow wr.heap.size 3 1 (.slice B 0 d) 0 (([] : List Int).map (Value.int .i64)) → Below wr.heap.size wr w3 → FGives (pst xs).1 (pst xs).2.2 ((pst xs).2.1 : Int) w (.returned (.tuple #[.slice A9 ss.length c9, .slice B 0 d, .int .i64 bad])) w3) := fun B d w3 h1 h2 => FIN.out B d w3 none (by rw [HV.out]; exact h1) h2
        rcases A with _ | ad
        · go_wp2_with (at_builtin; refine at_app (.tmp 58) (.tmp 61) rfl ?_; go_must (refine wpList_app (own_empty wr wr.heap.size (Nat.le_refl _)) (ints_void _ _) rfl (.tmp 58) (.tmp 61) rfl rfl rfl (0) (by first | omega | (simp; done) | (simp; omega)) (by first | omega | (simp; done) | (simp; omega)) (by first | omega | (simp; done) | (simp; omega)) ?_; intro A3 c3 w3 own3 ho3 hat3 hc3 hd3; (try simp only [List.nil_append] at own3); have hz3 := ho3.size; (try simp at hz3)))
          go_ret3
          exact FIN2.out _ _ _ own3 (b_own (b_alloc (b_refl wr) _) ho3 (fun g hg => by simp [Value.ownBlock] at hg; omega))
        · by_cases hc00 : c = 0
          · subst hc00
            go_wp2_with (at_builtin; refine at_app (.tmp 58) (.tmp 61) rfl ?_; go_must (refine wpList_app (own_empty wr wr.heap.size (Nat.le_refl _)) (ints_void _ _) rfl (.tmp 58) (.tmp 61) rfl rfl rfl (0) (by first | omega | (simp; done) | (simp; omega)) (by first | omega | (simp; done) | (simp; omega)) (by first | omega | (simp; done) | (simp; omega)) ?_; intro A3 c3 w3 own3 ho3 hat3 hc3 hd3; (try simp only [List.nil_append] at own3); have hz3 := ho3.size; (try simp at hz3)))
            go_ret3
            exact FIN2.out _ _ _ own3 (b_own (b_alloc (b_refl wr) _) ho3 (fun g hg => by simp [Value.ownBlock] at hg; omega))
          · have hc01 : ¬ 0 = c := fun e => hc00 e.symm
            go_wp2_with (at_builtin; refine at_app (.tmp 58) (.tmp 61) rfl ?_; go_must (refine wpList_app (own_empty wr wr.heap.size (Nat.le_refl _)) (ints_void _ _) rfl (.tmp 58) (.tmp 61) rfl rfl rfl (0) (by first | omega | (simp; done) | (simp; omega)) (by first | omega | (simp; done) | (simp; omega)) (by first | omega | (simp; done) | (simp; omega)) ?_; intro A3 c3 w3 own3 ho3 hat3 hc3 hd3; (try simp only [List.nil_append] at own3); have hz3 := ho3.size; (try simp at hz3)))
            go_ret3
            exact FIN2.out _ _ _ own3 (b_own (b_alloc (b_refl wr) _) ho3 (fun g hg => by simp [Value.ownBlock] at hg; omega))
      · obtain ⟨b, o, x0, rfl, _, _, _⟩ := hx.at_ (k := 0) (by omega)
        have hxd := (hx.drop hj).below hbr
        by_cases hcj : c = j
        · have hjk2 : k = j := by omega
          subst hjk2
          subst hcj
          have HV : Hid (xs.drop c = []) := List.eq_nil_of_length_eq_zero (by have := HL.out; omega)
          have FIN2 : Hid (∀ (B : Option Addr) (d : Nat) (w3 : World), w3.ownsRow wr.heap.size 3 1 (.slice B 0 d) 0 (([] : List Int).map (Value.int .i64)) → Below wr.heap.size wr w3 → FGives (pst xs).1 (pst xs).2.2 ((pst xs).2.1 : Int) w (.returned (.tuple #[.slice A9 ss.length c9, .slice B 0 d, .int .i64 bad])) w3) := fun B d w3 h1 h2 => by have h3 := FIN.out B d w3 none; rw [HV.out, Nat.sub_self] at h3; exact h3 h1 h2
          go_wp2_with (at_builtin; refine at_app (.tmp 58) (.tmp 61) rfl ?_; go_must (refine wpList_app (own_empty wr wr.heap.size (Nat.le_refl _)) (ints_void _ _) rfl (.tmp 58) (.tmp 61) rfl rfl rfl (0) (by first | omega | (simp; done) | (simp; omega)) (by first | omega | (simp; done) | (simp; omega)) (by first | omega | (simp; done) | (simp; omega)) ?_; intro A3 c3 w3 own3 ho3 hat3 hc3 hd3; (try simp only [List.nil_append] at own3); have hz3 := ho3.size; (try simp at hz3)))
          go_ret3
          exact FIN2.out _ _ _ own3 (b_own (b_alloc (b_refl wr) _) ho3 (fun g hg => by simp [Value.ownBlock] at hg; omega))
        · have hcj2 : ¬ j = c := fun e => hcj e.symm
          go_wp2_with (at_builtin; refine at_app (.tmp 58) (.tmp 61) rfl ?_; go_must (refine wpList_app (own_empty wr wr.heap.size (Nat.le_refl _)) ((Ints.lift hxd (by repeat (first | (with_reducible exact hxd) | (with_reducible refine Ints.drew ?_) | (with_reducible refine Ints.drewN ?_ _) | (with_reducible refine Ints.alloc ?_ _) | (with_reducible refine Ints.below ?_ (by assumption)))))) rfl (.tmp 58) (.tmp 61) rfl rfl rfl (k - j) (by first | omega | (simp; done) | (simp; omega)) (by first | omega | (simp; done) | (simp; omega)) (by first | omega | (simp; done) | (simp; omega)) ?_; intro A3 c3 w3 own3 ho3 hat3 hc3 hd3; (try simp only [List.nil_append] at own3); have hz3 := ho3.size; (try simp at hz3)))
          go_ret3
          exact FIN.out _ _ _ none own3 (b_own (b_alloc (b_refl wr) _) ho3 (fun g hg => by simp [Value.ownBlock] at hg; omega))
set_option maxRecDepth 4000 in
set_option maxHeartbeats 4000000 in
theorem impl_PacketsFrom_ok (A : Option Addr) (n c : Nat) (xs : List Int) (w : World) (hx : Ints w A n xs) (hnc : n ≤ c) (hcm : c ≤ maxLen) (hn : n ≤ 450) (hby : bytesOk xs = true) (hE : ErrT w) :
    Calls Tryd.prog 12 #[.slice A n c] w (FGives (pst xs).1 (pst xs).2.2 ((pst xs).2.1 : Int) w) := by
  have HX := Lib.hid hx.len
  have hn1 : ¬ 450 < (n : Int) := by omega
  have hnc2 : (n : Int) ≤ (c : Int) := by omega
  unfold maxLen at hcm
  go_enter Tryd.func12, Tryd.ntmps12
  go_wp2_with (go_at_call 30; refine (allBytes_any _ _ _ _ _ hx (by omega)).mono ?_; rintro e w' ⟨rfl, rfl⟩)
  clear hby
  go_loopw [5, 6, 7, 23] (fun v d f i wr => ∃ (k j bad : Nat) (ss : List Sl) (ps : List (List Int)), j ≤ k ∧ k ≤ n ∧ bad ≤ k ∧ ss.length ≤ k ∧ i = .int .i64 k ∧ f = .int .i64 j ∧ d = .int .i64 bad ∧ wr.ownsRow w.heap.size 22 1 v ss.length (ss.map slv) ∧ Owns wr w.heap.size ss ps ∧ Below w.heap.size w wr ∧ Hid (pst (xs.take k) = (ps, bad, (xs.take k).drop j))) (fun _ _ _ i _ => n - (intOf i).toNat)
  case atStart => exact ⟨0, 0, 0, [], [], Nat.le_refl _, Nat.zero_le _, Nat.le_refl _, Nat.le_refl _, rfl, rfl, rfl, ownS_nil w w.heap.size, Owns.nil _ _, (by repeat (first | (with_reducible exact b_refl _) | (with_reducible refine b_alloc ?_ _) | (with_reducible refine b_drew ?_) | (with_reducible refine b_drewN ?_ _) | (with_reducible refine b_set ?_ ?_ _) | (with_reducible refine b_trans ?_ (by assumption)) | (with_reducible refine b_only ?_ (by assumption) ?_) | omega | (focus (simp; done)) | (focus (simp; omega)))), rfl⟩
  case round =>
    obtain ⟨k, j, bad, ss, ps, hj, hk, hbk, hsk, rfl, rfl, rfl, hown, hows, hbr, HY⟩ := hrel
    have hsz := hbr.size
    have hE2 := hE.below hbr
    have hjk : (j : Int) ≤ (k : Int) := by omega
    by_cases hlt : k < n
    · obtain ⟨b, o, x, rfl, hb, ex, hc0⟩ := hx.at_ hlt
      have hc := (hbr.cell (p := ⟨b, o + k, none⟩) hb).trans hc0
      have EX := Lib.hid ex
      have hkc : (k : Int) ≤ (c : Int) := by omega
      have hcj : ¬ c = j := by omega
      have hcj2 : ¬ j = c := by omega
      clear ex hc0
      by_cases h1 : x = 192
      · subst h1
        have hxs := ((hx.take (Nat.le_of_lt hlt)).drop hj).below hbr
        rcases hU : unpack ((xs.take k).drop j) with _ | p
        · have HU := Lib.hid hU
          go_wp2_with fail
          (with_reducible refine (packetFrom_no _ _ _ _ _ hxs (by omega) hU).mono ?_); rintro e w1 ⟨g, rfl, hb1⟩; have hz1 := hb1.size; (try simp at hz1)
          clear hU
          go_wp2_with fail
          (with_reducible refine (asHit_new g w1 (hE2.below hb1)).mono ?_); rintro e w2 ⟨rfl, hb2⟩
          have hown2 := own_below (own_below hown hb1) hb2
          have hows2 := (hows.below hb1).below hb2
          have hbr2 := b_trans (b_trans hbr hb1) hb2
          go_wp2
          go_roundw
          case rel => exact ⟨k + 1, k + 1, bad + 1, ss, ps, Nat.le_refl _, by omega, by omega, by omega, by go_num, by go_num, by go_num, hown2, hows2, hbr2, pst_bad HY.out EX.out HU.out⟩
          case measure => simp [intOf]; omega
        · have HU := Lib.hid hU
          go_wp2_with fail
          (with_reducible refine (packetFrom_yes _ _ _ _ _ _ hxs (by omega) hU).mono ?_); rintro e w1 ⟨A1, m1, c1, rfl, hm1, ho1, hc1, hd1, hb1⟩; have hz1 := hb1.size; (try simp at hz1)
          clear hU
          have HM := Lib.hid hm1
          clear hm1
          have hown1 := own_below hown hb1
          have hows1 := hows.below hb1
          have hbr1 := b_trans hbr hb1
          have hs1 := hb1.size
          go_wp2_with fail
          (with_reducible refine (asNil_new _ _).mono ?_); rintro e w2 ⟨rfl, hb2⟩
          have hown2 := own_below (hown1.alloc _) hb2
          have hows2 := (hows1.alloc _).below hb2
          have hbr2 := b_trans (b_alloc hbr1 _) hb2
          have ho2 := own_below (ho1.alloc _) hb2
          have hs2 := hb2.size
          simp only [World.size_alloc] at hs2
          by_cases hm0 : m1 = 0
          · subst hm0
            have HP : Hid (unpack ((xs.take k).drop j) = some []) := by
              show _ = _
              rw [HU.out, List.eq_nil_of_length_eq_zero HM.out.symm]
            go_wp2
            go_roundw
            case rel => exact ⟨k + 1, k + 1, bad, ss, ps, Nat.le_refl _, by omega, by omega, by omega, by go_num, by go_num, by go_num, hown2, hows2, hbr2, pst_void HY.out EX.out HP.out⟩
            case measure => simp [intOf]; omega
          · have hm2 : 0 < (m1 : Int) := by omega
            have HP : Hid (p ≠ []) := by
              show _ ≠ _
              rintro rfl
              exact hm0 (by have := HM.out; simpa using this)
            have hlo : Hid (∀ (j : Nat) (t : Sl) (g : Nat), ss[j]? = some t → (slv t).ownBlock = some g → g < wr.heap.size) := fun j t g h1 h2 => (hows.lt h1 h2).2
            clear hm0
            go_wp2_with (at_builtin; refine at_app (.tmp 48) (.tmp 50) rfl ?_; go_must (refine wpList_appS ((own_lift hown2 (by repeat (first | (with_reducible exact hown2) | (with_reducible refine World.ownsRow.drew ?_) | (with_reducible refine own_drewN ?_ _) | (with_reducible refine World.ownsRow.alloc ?_ _) | (with_reducible refine own_below ?_ (by assumption)))))) (Reads.litS [(A1, m1, c1)] (Blk.new _ _ _)) rfl (.tmp 48) (.tmp 50) rfl rfl rfl (ss.length + 1) (by first | omega | (simp; done) | (simp; omega)) (by first | omega | (simp; done) | (simp; omega)) (by first | omega | (simp; done) | (simp; omega)) ?_; intro A3 c3 w3 own3 ho3 hat3 hc3 hd3; (try simp only [List.nil_append] at own3); have hz3 := ho3.size; (try simp at hz3)))
            go_roundw
            case rel => exact ⟨k + 1, k + 1, bad, ss ++ [(A1, m1, c1)], ps ++ [p], Nat.le_refl _, by omega, by omega, by simp; omega, by go_num, by go_num, by go_num, by simpa using own3, more_rows hown2 hows2 ho2 hlo.out hsz ho3, b_own (b_alloc hbr2 _) ho3 (fun g hg => (hown2.lt g hg).1), pst_one HY.out EX.out HU.out HP.out⟩
            case measure => simp [intOf]; omega
      · have e1 : (x == 192) = false := by simpa using h1
        have e2 : (x != 192) = true := by simpa using h1
        have HP := Lib.hid (pst_other HY.out EX.out h1 hj)
        clear h1
        go_wp2
        go_roundw
        case rel => exact ⟨k + 1, j, bad, ss, ps, by omega, by omega, by omega, by omega, by go_num, by go_num, by go_num, hown, hows, hbr, HP.out⟩
        case measure => simp [intOf]; omega
    · obtain rfl : k = n := by omega
      have HZ : Hid (pst xs = (ps, bad, xs.drop j)) := by
        have h := HY.out
        rwa [List.take_of_length_le (by have := HX.out; omega)] at h
      have HL : Hid ((xs.drop j).length = k - j) := by show _ = _; rw [List.length_drop]; have := HX.out; omega
      have hjc : (j : Int) ≤ (c : Int) := by omega
      obtain ⟨A9, c9, rfl, hc9, hd9⟩ := own_form hown
      clear HY
      have fin : ∀ (B : Option Addr) (d : Nat) (w3 : World) (r : Option Nat), w3.ownsRow wr.heap.size 3 1 (.slice B (k - j) d) (k - j) ((xs.drop j).map (Value.int .i64)) → Below wr.heap.size wr w3 → FGives (pst xs).1 (pst xs).2.2 ((pst xs).2.1 : Int) w (.returned (.tuple #[.slice A9 ss.length c9, .slice B (k - j) d, .int .i64 bad])) w3 := by
        intro B d w3 r h1 h2
        rw [HZ.out]
        exact ⟨A9, ss.length, c9, ss, B, k - j, d, rfl, ⟨own_below hown h2, hows.below h2⟩, own_mono h1 hsz, ⟨wr.heap.size, hsz, h1, fun i t g ht hg => (hows.lt ht hg).2⟩, b_trans hbr h2⟩
      have FIN := Lib.hid fin
      clear fin
      by_cases hn0 : k = 0
      · have hj0 : j = 0 := by omega
        subst hj0
        subst hn0
        have HV : Hid (xs.drop 0 = []) := List.eq_nil_of_length_eq_zero HL.out
        have FIN2 : Hid (∀ (B : Option Addr) (d : Nat) (w3 : World), w3.ownsRow wr.heap.size 3 1 (.slice B 0 d) 0 (([] : List Int).map (Value.int .i64)) → Below wr.heap.size wr w3 → FGives (pst xs).1 (pst xs).2.2 ((pst xs).2.1 : Int) w (.returned (.tuple #[.slice A9 ss.length c9, .slice B 0 d, .int .i64 bad])) w3) := fun B d w3 h1 h2 => FIN.out B d w3 none (by rw [HV.out]; exact h1) h2
        rcases A with _ | ad
        · go_wp2_with (at_builtin; refine at_app (.const (.slice none 0 0)) (.tmp 58) rfl ?_; go_must (refine wpList_app (own_nil _ wr.heap.size) (ints_void _ _) rfl (.const (.slice none 0 0)) (.tmp 58) rfl rfl rfl (0) (by first | omega | (simp; done) | (simp; omega)) (by first | omega | (simp; done) | (simp; omega)) (by first | omega | (simp; done) | (simp; omega)) ?_; intro A3 c3 w3 own3 ho3 hat3 hc3 hd3; (try simp only [List.nil_append] at own3); have hz3 := ho3.size; (try simp at hz3)))
          go_ret3
          exact FIN2.out _ _ _ own3 (b_own (b_refl wr) ho3 (fun g hg => by simp [Value.ownBlock] at hg))
        · by_cases hc00 : c = 0
          · subst hc00
            go_wp2_with (at_builtin; refine at_app (.const (.slice none 0 0)) (.tmp 58) rfl ?_; go_must (refine wpList_app (own_nil _ wr.heap.size) (ints_void _ _) rfl (.const (.slice none 0 0)) (.tmp 58) rfl rfl rfl (0) (by first | omega | (simp; done) | (simp; omega)) (by first | omega | (simp; done) | (simp; omega)) (by first | omega | (simp; done) | (simp; omega)) ?_; intro A3 c3 w3 own3 ho3 hat3 hc3 hd3; (try simp only [List.nil_append] at own3); have hz3 := ho3.size; (try simp at hz3)))
            go_ret3
            exact FIN2.out _ _ _ own3 (b_own (b_refl wr) ho3 (fun g hg => by simp [Value.ownBlock] at hg))
          · have hc01 : ¬ 0 = c := fun e => hc00 e.symm
            go_wp2_with (at_builtin; refine at_app (.const (.slice none 0 0)) (.tmp 58) rfl ?_; go_must (refine wpList_app (own_nil _ wr.heap.size) (ints_void _ _) rfl (.const (.slice none 0 0)) (.tmp 58) rfl rfl rfl (0) (by first | omega | (simp; done) | (simp; omega)) (by first | omega | (simp; done) | (simp; omega)) (by first | omega | (simp; done) | (simp; omega)) ?_; intro A3 c3 w3 own3 ho3 hat3 hc3 hd3; (try simp only [List.nil_append] at own3); have hz3 := ho3.size; (try simp at hz3)))
            go_ret3
            exact FIN2.out _ _ _ own3 (b_own (b_refl wr) ho3 (fun g hg => by simp [Value.ownBlock] at hg))
      · obtain ⟨b, o, x0, rfl, _, _, _⟩ := hx.at_ (k := 0) (by omega)
        have hxd := (hx.drop hj).below hbr
        by_cases hcj : c = j
        · have hjk2 : k = j := by omega
          subst hjk2
          subst hcj
          have HV : Hid (xs.drop c = []) := List.eq_nil_of_length_eq_zero (by have := HL.out; omega)
          have FIN2 : Hid (∀ (B : Option Addr) (d : Nat) (w3 : World), w3.ownsRow wr.heap.size 3 1 (.slice B 0 d) 0 (([] : List Int).map (Value.int .i64)) → Below wr.heap.size wr w3 → FGives (pst xs).1 (pst xs).2.2 ((pst xs).2.1 : Int) w (.returned (.tuple #[.slice A9 ss.length c9, .slice B 0 d, .int .i64 bad])) w3) := fun B d w3 h1 h2 => by have h3 := FIN.out B d w3 none; rw [HV.out, Nat.sub_self] at h3; exact h3 h1 h2
          go_wp2_with (at_builtin; refine at_app (.const (.slice none 0 0)) (.tmp 58) rfl ?_; go_must (refine wpList_app (own_nil _ wr.heap.size) (ints_void _ _) rfl (.const (.slice none 0 0)) (.tmp 58) rfl rfl rfl (0) (by first | omega | (simp; done) | (simp; omega)) (by first | omega | (simp; done) | (simp; omega)) (by first | omega | (simp; done) | (simp; omega)) ?_; intro A3 c3 w3 own3 ho3 hat3 hc3 hd3; (try simp only [List.nil_append] at own3); have hz3 := ho3.size; (try simp at hz3)))
          go_ret3
          exact FIN2.out _ _ _ own3 (b_own (b_refl wr) ho3 (fun g hg => by simp [Value.ownBlock] at hg))
        · have hcj2 : ¬ j = c := fun e => hcj e.symm
          go_wp2_with (at_builtin; refine at_app (.const (.slice none 0 0)) (.tmp 58) rfl ?_; go_must (refine wpList_app (own_nil _ wr.heap.size) ((Ints.lift hxd (by repeat (first | (with_reducible exact hxd) | (with_reducible refine Ints.drew ?_) | (with_reducible refine Ints.drewN ?_ _) | (with_reducible refine Ints.alloc ?_ _) | (with_reducible refine Ints.below ?_ (by assumption)))))) rfl (.const (.slice none 0 0)) (.tmp 58) rfl rfl rfl (k - j) (by first | omega | (simp; done) | (simp; omega)) (by first | omega | (simp; done) | (simp; omega)) (by first | omega | (simp; done) | (simp; omega)) ?_; intro A3 c3 w3 own3 ho3 hat3 hc3 hd3; (try simp only [List.nil_append] at own3); have hz3 := ho3.size; (try simp at hz3)))
          go_ret3
          exact FIN.out _ _ _ none own3 (b_own (b_refl wr) ho3 (fun g hg => by simp [Value.ownBlock] at hg))
end Go.Proofs.YtoeajbnjenceaaaDoor

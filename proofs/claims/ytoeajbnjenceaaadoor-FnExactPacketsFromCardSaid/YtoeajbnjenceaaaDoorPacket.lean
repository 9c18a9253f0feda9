/-
  PACKETS AS BYTES: PacketBytes (the program's and the reference's). Condition: at most 2^20 elements.
-/
import Derived.Test.YtoeajbnjenceaaaDoorBytes
import Derived.Test.YtoeajbnjenceaaaDoorAppend
set_option linter.unusedVariables false
set_option linter.unusedSimpArgs false
namespace Go.Proofs.YtoeajbnjenceaaaDoor
open Go.ChangeShapes Go.WideShapes Go.ChangeAt Go.RowKit

/-- What it leaves: a list of the call's own, and a truth. -/
def Gives (xs : List Int) (b : Bool) (w : World) (e : Ending) (w' : World) : Prop :=
  ∃ (A : Option Addr) (m c : Nat), e = .returned (.tuple #[.slice A m c, .bool b]) ∧ m = xs.length ∧ w'.ownsRow w.heap.size 3 1 (.slice A m c) m (xs.map (Value.int .i64)) ∧ m ≤ c ∧ c ≤ maxLen ∧ Below w.heap.size w w'
def GivesL (xs : List Int) (w : World) (e : Ending) (w' : World) : Prop :=
  ∃ (A : Option Addr) (m c : Nat), e = .returned (.slice A m c) ∧ m = xs.length ∧ w'.ownsRow w.heap.size 3 1 (.slice A m c) m (xs.map (Value.int .i64)) ∧ m ≤ c ∧ c ≤ maxLen ∧ Below w.heap.size w w'
theorem gives_nil (w : World) {w' : World} (h : Below w.heap.size w w') : Gives [] false w (.returned (.tuple #[.slice none 0 0, .bool false])) w' := ⟨none, 0, 0, rfl, rfl, own_nil _ _, Nat.le_refl _, by unfold maxLen; omega, h⟩
/-- A byte as it is sent. -/
def esc (x : Int) : List Int := if x = 192 then [219, 220] else if x = 219 then [219, 221] else [x]
def escAll (xs : List Int) : List Int := xs.flatMap esc
def packed (xs : List Int) : List Int := escAll xs ++ [192]
def packOk (xs : List Int) : Bool := bytesOk xs && decide (1 ≤ xs.length) && decide (xs.length ≤ 20)
theorem escAll_take {xs : List Int} {k : Nat} {x : Int} (hx : xs[k]? = some x) : escAll (xs.take (k + 1)) = escAll (xs.take k) ++ esc x := by
  rw [List.take_add_one, hx]
  simp [escAll]
theorem esc_len (x : Int) : 1 ≤ (esc x).length ∧ (esc x).length ≤ 2 := by
  unfold esc
  split
  · simp
  · split <;> simp
theorem escAll_len (xs : List Int) : (escAll xs).length ≤ 2 * xs.length := by
  induction xs with
  | nil => simp [escAll]
  | cons x xs ih =>
    have := (esc_len x).2
    simp only [escAll, List.flatMap_cons, List.length_append, List.length_cons] at ih ⊢
    omega
theorem pack_len (xs : List Int) : (if packOk xs = true then packed xs else []).length ≤ 2 * xs.length + 1 := by
  have := escAll_len xs
  split <;> simp [packed]
  exact this
theorem escAll_end (xs : List Int) : ∀ y ∈ escAll xs, y ≠ 192 := by
  intro y hy
  obtain ⟨x, _, h⟩ := List.mem_flatMap.1 hy
  unfold esc at h
  split at h
  · simp at h; omega
  · split at h
    · simp at h; omega
    · simp at h; omega
theorem packOk_parts {xs : List Int} (h : packOk xs = true) : bytesOk xs = true ∧ 1 ≤ xs.length ∧ xs.length ≤ 20 := by
  simpa [packOk, and_assoc] using h
set_option maxHeartbeats 2000000 in
theorem l31Bytes_any (A : Option Addr) (n c : Nat) (xs : List Int) (w : World) (hx : Ints w A n xs) (hn : n ≤ 1048576) :
    Calls Tryd.prog 37 #[.slice A n c] w (GivesL (packed xs) w) := by
  have HX := Lib.hid hx.len
  go_enter Tryd.func37, Tryd.ntmps37
  go_wp2
  go_loopw [3, 4] (fun v i wr => ∃ (k m : Nat) (ys : List Int), k ≤ n ∧ i = .int .i64 k ∧ m ≤ 2 * k ∧ wr.ownsRow w.heap.size 3 1 v m (ys.map (Value.int .i64)) ∧ Below w.heap.size w wr ∧ Hid (ys = escAll (xs.take k))) (fun _ i _ => n - (intOf i).toNat)
  case atStart => exact ⟨0, 0, [], Nat.zero_le _, rfl, Nat.zero_le _, own_empty w w.heap.size (Nat.le_refl _), (by repeat (first | (with_reducible exact b_refl _) | (with_reducible refine b_alloc ?_ _) | (with_reducible refine b_drew ?_) | (with_reducible refine b_drewN ?_ _) | (with_reducible refine b_set ?_ ?_ _) | (with_reducible refine b_trans ?_ (by assumption)) | (with_reducible refine b_only ?_ (by assumption) ?_) | omega | (focus (simp; done)) | (focus (simp; omega)))), rfl⟩
  case round =>
    obtain ⟨k, m, ys, hk, rfl, hm, hown, hbr, HY⟩ := hrel
    have hsz := hbr.size
    by_cases hlt : k < n
    · obtain ⟨b, o, x, rfl, hb, ex, hc0⟩ := hx.at_ hlt
      have hc := (hbr.cell (p := ⟨b, o + k, none⟩) hb).trans hc0
      have ET := Lib.hid (escAll_take ex)
      clear ex hc0
      by_cases h1 : x = 192
      · subst h1
        go_wp2_with (at_builtin; refine at_app (.tmp 25) (.tmp 26) rfl ?_; go_must (refine wpList_app ((own_lift hown (by repeat (first | (with_reducible exact hown) | (with_reducible refine World.ownsRow.drew ?_) | (with_reducible refine own_drewN ?_ _) | (with_reducible refine World.ownsRow.alloc ?_ _) | (with_reducible refine own_below ?_ (by assumption)))))) (Ints.lit [219, 220] (Blk.new _ _ _)) rfl (.tmp 25) (.tmp 26) rfl rfl rfl (m + 2) (by first | omega | (simp; done) | (simp; omega)) (by first | omega | (simp; done) | (simp; omega)) (by first | omega | (simp; done) | (simp; omega)) ?_; intro A1 c1 w1 own1 ho1 hat1 hc1 hd1; (try simp only [List.nil_append] at own1); have hz1 := ho1.size; (try simp at hz1)))
        go_roundw
        case rel => exact ⟨k + 1, m + 2, _, by omega, by go_num, by omega, own1, (by repeat (first | (with_reducible exact b_refl _) | (with_reducible refine b_alloc ?_ _) | (with_reducible refine b_drew ?_) | (with_reducible refine b_drewN ?_ _) | (with_reducible refine b_set ?_ ?_ _) | (with_reducible refine b_trans ?_ (by assumption)) | (with_reducible refine b_only ?_ (by assumption) ?_) | (with_reducible refine b_own ?_ (by assumption) ?_) | omega | (focus (intro g hg; simp [Value.ownBlock] at hg; done)) | (focus (intro g hg; simp [Value.ownBlock] at hg; omega)) | (focus (refine fun g hg => Nat.le_trans ?_ (World.ownsRow.lt (by assumption) g hg).1; first | omega | (simp; done) | (simp; omega))) | (focus (simp; done)) | (focus (simp; omega)))), by show _ = _; rw [ET.out, HY.out]; rfl⟩
        case measure => simp [intOf]; omega
      · have e1 : (x == 192) = false := by simpa using h1
        by_cases h2 : x = 219
        · subst h2
          go_wp2_with (at_builtin; refine at_app (.tmp 30) (.tmp 31) rfl ?_; go_must (refine wpList_app ((own_lift hown (by repeat (first | (with_reducible exact hown) | (with_reducible refine World.ownsRow.drew ?_) | (with_reducible refine own_drewN ?_ _) | (with_reducible refine World.ownsRow.alloc ?_ _) | (with_reducible refine own_below ?_ (by assumption)))))) (Ints.lit [219, 221] (Blk.new _ _ _)) rfl (.tmp 30) (.tmp 31) rfl rfl rfl (m + 2) (by first | omega | (simp; done) | (simp; omega)) (by first | omega | (simp; done) | (simp; omega)) (by first | omega | (simp; done) | (simp; omega)) ?_; intro A1 c1 w1 own1 ho1 hat1 hc1 hd1; (try simp only [List.nil_append] at own1); have hz1 := ho1.size; (try simp at hz1)))
          go_roundw
          case rel => exact ⟨k + 1, m + 2, _, by omega, by go_num, by omega, own1, (by repeat (first | (with_reducible exact b_refl _) | (with_reducible refine b_alloc ?_ _) | (with_reducible refine b_drew ?_) | (with_reducible refine b_drewN ?_ _) | (with_reducible refine b_set ?_ ?_ _) | (with_reducible refine b_trans ?_ (by assumption)) | (with_reducible refine b_only ?_ (by assumption) ?_) | (with_reducible refine b_own ?_ (by assumption) ?_) | omega | (focus (intro g hg; simp [Value.ownBlock] at hg; done)) | (focus (intro g hg; simp [Value.ownBlock] at hg; omega)) | (focus (refine fun g hg => Nat.le_trans ?_ (World.ownsRow.lt (by assumption) g hg).1; first | omega | (simp; done) | (simp; omega))) | (focus (simp; done)) | (focus (simp; omega)))), by show _ = _; rw [ET.out, HY.out]; rfl⟩
          case measure => simp [intOf]; omega
        · have e2 : (x == 219) = false := by simpa using h2
          have EX : Hid (esc x = [x]) := by show _ = _; rw [esc, if_neg h1, if_neg h2]
          clear h1 h2
          go_wp2_with (at_builtin; refine at_app (.tmp 16) (.tmp 21) rfl ?_; go_must (refine wpList_app ((own_lift hown (by repeat (first | (with_reducible exact hown) | (with_reducible refine World.ownsRow.drew ?_) | (with_reducible refine own_drewN ?_ _) | (with_reducible refine World.ownsRow.alloc ?_ _) | (with_reducible refine own_below ?_ (by assumption)))))) (Ints.lit [x] (Blk.new _ _ _)) rfl (.tmp 16) (.tmp 21) rfl rfl rfl (m + 1) (by first | omega | (simp; done) | (simp; omega)) (by first | omega | (simp; done) | (simp; omega)) (by first | omega | (simp; done) | (simp; omega)) ?_; intro A1 c1 w1 own1 ho1 hat1 hc1 hd1; (try simp only [List.nil_append] at own1); have hz1 := ho1.size; (try simp at hz1)))
          go_roundw
          case rel => exact ⟨k + 1, m + 1, _, by omega, by go_num, by omega, own1, (by repeat (first | (with_reducible exact b_refl _) | (with_reducible refine b_alloc ?_ _) | (with_reducible refine b_drew ?_) | (with_reducible refine b_drewN ?_ _) | (with_reducible refine b_set ?_ ?_ _) | (with_reducible refine b_trans ?_ (by assumption)) | (with_reducible refine b_only ?_ (by assumption) ?_) | (with_reducible refine b_own ?_ (by assumption) ?_) | omega | (focus (intro g hg; simp [Value.ownBlock] at hg; done)) | (focus (intro g hg; simp [Value.ownBlock] at hg; omega)) | (focus (refine fun g hg => Nat.le_trans ?_ (World.ownsRow.lt (by assumption) g hg).1; first | omega | (simp; done) | (simp; omega))) | (focus (simp; done)) | (focus (simp; omega)))), by show _ = _; rw [ET.out, HY.out, EX.out]⟩
          case measure => simp [intOf]; omega
    · obtain rfl : k = n := by omega
      go_wp2_with (at_builtin; refine at_app (.tmp 33) (.tmp 34) rfl ?_; go_must (refine wpList_app ((own_lift hown (by repeat (first | (with_reducible exact hown) | (with_reducible refine World.ownsRow.drew ?_) | (with_reducible refine own_drewN ?_ _) | (with_reducible refine World.ownsRow.alloc ?_ _) | (with_reducible refine own_below ?_ (by assumption)))))) (Ints.lit [192] (Blk.new _ _ _)) rfl (.tmp 33) (.tmp 34) rfl rfl rfl (m + 1) (by first | omega | (simp; done) | (simp; omega)) (by first | omega | (simp; done) | (simp; omega)) (by first | omega | (simp; done) | (simp; omega)) ?_; intro A1 c1 w1 own1 ho1 hat1 hc1 hd1; (try simp only [List.nil_append] at own1); have hz1 := ho1.size; (try simp at hz1)))
      have HZ : Hid (ys = escAll xs) := by
        have h := HY.out
        rwa [List.take_of_length_le (by have := HX.out; omega)] at h
      have hl : m + 1 = (packed xs).length := by
        have h1 := own1.1
        have h2 := HZ.out
        rw [h2] at h1
        simp [packed] at h1 ⊢
        omega
      have HL := Lib.hid hl
      clear hl
      have own2 : w1.ownsRow w.heap.size 3 1 (.slice A1 (m + 1) c1) (m + 1) ((packed xs).map (Value.int .i64)) := by
        have h2 := HZ.out
        subst h2
        exact own1
      go_ret
      exact ⟨A1, m + 1, c1, rfl, HL.out, own2, hc1, hd1, (by repeat (first | (with_reducible exact b_refl _) | (with_reducible refine b_alloc ?_ _) | (with_reducible refine b_drew ?_) | (with_reducible refine b_drewN ?_ _) | (with_reducible refine b_set ?_ ?_ _) | (with_reducible refine b_trans ?_ (by assumption)) | (with_reducible refine b_only ?_ (by assumption) ?_) | (with_reducible refine b_own ?_ (by assumption) ?_) | omega | (focus (intro g hg; simp [Value.ownBlock] at hg; done)) | (focus (intro g hg; simp [Value.ownBlock] at hg; omega)) | (focus (refine fun g hg => Nat.le_trans ?_ (World.ownsRow.lt (by assumption) g hg).1; first | omega | (simp; done) | (simp; omega))) | (focus (simp; done)) | (focus (simp; omega))))⟩
set_option maxHeartbeats 1000000 in
theorem spec_PacketBytes (A : Option Addr) (n c : Nat) (xs : List Int) (w : World) (hx : Ints w A n xs) (hn : n ≤ 1048576) :
    Calls Tryd.prog 21 #[.slice A n c] w (Gives (if packOk xs = true then packed xs else []) (packOk xs) w) := by
  have hl := hx.len
  have HL := Lib.hid hl
  by_cases h1 : bytesOk xs = true
  · by_cases h2 : 1 ≤ n ∧ n ≤ 20
    · have hok : packOk xs = true := by simp [packOk, h1]; omega
      have hin : in_ (n : Int) 1 20 = true := by simp [in_]; omega
      rw [if_pos hok, hok]
      clear hl hok h2
      go_enter Tryd.func21, Tryd.ntmps21
      go_wp2_with (first | (go_at_call 28; refine (l4Bytes_any _ _ _ _ _ hx (by omega)).mono ?_; rintro e w' ⟨rfl, rfl⟩) | (go_at_call 36; refine (l6In_any _ _ _ _).mono ?_; rintro e w' ⟨rfl, rfl⟩) | (go_at_call 37; go_must ((with_reducible refine (l31Bytes_any _ _ _ _ _ hx hn).mono ?_); rintro e w1 ⟨A1, m1, c1, rfl, hm1, ho1, hc1, hd1, hb1⟩; have hz1 := hb1.size; (try simp at hz1); have HM := Lib.hid hm1; clear hm1)))
      go_ret2
      exact ⟨_, _, _, rfl, HM.out, ho1, hc1, hd1, hb1⟩
    · have hok : packOk xs = false := by simp [packOk]; omega
      have hin : in_ (n : Int) 1 20 = false := by simp [in_]; omega
      rw [hok]
      clear hl hok h2
      go_enter Tryd.func21, Tryd.ntmps21
      go_wp2_with (first | (go_at_call 28; refine (l4Bytes_any _ _ _ _ _ hx (by omega)).mono ?_; rintro e w' ⟨rfl, rfl⟩) | (go_at_call 36; refine (l6In_any _ _ _ _).mono ?_; rintro e w' ⟨rfl, rfl⟩))
      go_ret2
      exact ⟨_, 0, _, rfl, rfl, own_empty w _ (Nat.le_refl _), Nat.le_refl _, by unfold maxLen; omega, (by repeat (first | (with_reducible exact b_refl _) | (with_reducible refine b_alloc ?_ _) | (with_reducible refine b_drew ?_) | (with_reducible refine b_drewN ?_ _) | (with_reducible refine b_set ?_ ?_ _) | (with_reducible refine b_trans ?_ (by assumption)) | (with_reducible refine b_only ?_ (by assumption) ?_) | omega | (focus (simp; done)) | (focus (simp; omega))))⟩
  · have h2 : bytesOk xs = false := by simpa using h1
    have hok : packOk xs = false := by simp [packOk, h2]
    rw [hok]
    clear hl hok h1
    go_enter Tryd.func21, Tryd.ntmps21
    go_wp2_with (go_at_call 28; refine (l4Bytes_any _ _ _ _ _ hx (by omega)).mono ?_; rintro e w' ⟨rfl, rfl⟩)
    go_ret2
    exact ⟨_, 0, _, rfl, rfl, own_empty w _ (Nat.le_refl _), Nat.le_refl _, by unfold maxLen; omega, (by repeat (first | (with_reducible exact b_refl _) | (with_reducible refine b_alloc ?_ _) | (with_reducible refine b_drew ?_) | (with_reducible refine b_drewN ?_ _) | (with_reducible refine b_set ?_ ?_ _) | (with_reducible refine b_trans ?_ (by assumption)) | (with_reducible refine b_only ?_ (by assumption) ?_) | omega | (focus (simp; done)) | (focus (simp; omega))))⟩
theorem packetValid_any (A : Option Addr) (n c : Nat) (xs : List Int) (w : World) (hx : Ints w A n xs) (hn : n ≤ 1048576) :
    Calls Tryd.prog 35 #[.slice A n c] w fun e w' => e = .returned (.bool (packOk xs)) ∧ w = w' := by
  have hl := hx.len
  have HL := Lib.hid hl
  by_cases h2 : 1 ≤ n ∧ n ≤ 20
  · have h3 : (1 : Int) ≤ (n : Int) := by omega
    have h4 : (n : Int) ≤ 20 := by omega
    have hok : packOk xs = bytesOk xs := by
      have e1 : 1 ≤ xs.length := by omega
      have e2 : xs.length ≤ 20 := by omega
      simp [packOk, e1, e2]
    rw [hok]
    clear hl hok h2
    go_enter Tryd.func35, Tryd.ntmps35
    go_wp2_with (go_at_call 30; refine (allBytes_any _ _ _ _ _ hx (by omega)).mono ?_; rintro e w' ⟨rfl, rfl⟩)
    go_ret
    exact ⟨rfl, rfl⟩
  · have hok : packOk xs = false := by simp [packOk]; omega
    rw [hok]
    have h5 : n = 0 ∨ 20 < n := by omega
    clear hl hok h2
    rcases h5 with h5 | h5
    · have h6 : ¬ (1 : Int) ≤ (n : Int) := by omega
      have h7 : decide ((1 : Int) ≤ (n : Int)) = false := by simp; omega
      clear h5
      go_enter Tryd.func35, Tryd.ntmps35
      go_wp2
      go_ret
      exact ⟨rfl, rfl⟩
    · have h6 : (1 : Int) ≤ (n : Int) := by omega
      have h7 : ¬ (n : Int) ≤ 20 := by omega
      go_enter Tryd.func35, Tryd.ntmps35
      go_wp2
      go_ret
      exact ⟨rfl, rfl⟩
set_option maxHeartbeats 2000000 in
theorem impl_PacketBytes (A : Option Addr) (n c : Nat) (xs : List Int) (w : World) (hx : Ints w A n xs) (hn : n ≤ 1048576) :
    Calls Tryd.prog 20 #[.slice A n c] w (Gives (if packOk xs = true then packed xs else []) (packOk xs) w) := by
  have HX := Lib.hid hx.len
  by_cases hok : packOk xs = true
  · rw [if_pos hok, hok]
    go_enter Tryd.func20, Tryd.ntmps20
    go_wp2_with (go_at_call 35; refine (packetValid_any _ _ _ _ _ hx hn).mono ?_; rintro e w' ⟨rfl, rfl⟩)
    clear hok
    go_loopw [4, 12] (fun v i wr => ∃ (k m : Nat) (ys : List Int), k ≤ n ∧ i = .int .i64 k ∧ m ≤ 2 * k ∧ wr.ownsRow w.heap.size 3 1 v m (ys.map (Value.int .i64)) ∧ Below w.heap.size w wr ∧ Hid (ys = escAll (xs.take k))) (fun _ i _ => n - (intOf i).toNat)
    case atStart => exact ⟨0, 0, [], Nat.zero_le _, rfl, Nat.zero_le _, own_nil w w.heap.size, (by repeat (first | (with_reducible exact b_refl _) | (with_reducible refine b_alloc ?_ _) | (with_reducible refine b_drew ?_) | (with_reducible refine b_drewN ?_ _) | (with_reducible refine b_set ?_ ?_ _) | (with_reducible refine b_trans ?_ (by assumption)) | (with_reducible refine b_only ?_ (by assumption) ?_) | omega | (focus (simp; done)) | (focus (simp; omega)))), rfl⟩
    case round =>
      obtain ⟨k, m, ys, hk, rfl, hm, hown, hbr, HY⟩ := hrel
      have hsz := hbr.size
      by_cases hlt : k < n
      · obtain ⟨b, o, x, rfl, hb, ex, hc0⟩ := hx.at_ hlt
        have hc := (hbr.cell (p := ⟨b, o + k, none⟩) hb).trans hc0
        have ET := Lib.hid (escAll_take ex)
        clear ex hc0
        by_cases h1 : x = 192
        · subst h1
          go_wp2_with (at_builtin; refine at_app (.tmp 23) (.tmp 24) rfl ?_; go_must (refine wpList_app ((own_lift hown (by repeat (first | (with_reducible exact hown) | (with_reducible refine World.ownsRow.drew ?_) | (with_reducible refine own_drewN ?_ _) | (with_reducible refine World.ownsRow.alloc ?_ _) | (with_reducible refine own_below ?_ (by assumption)))))) (Ints.lit [219, 220] (Blk.new _ _ _)) rfl (.tmp 23) (.tmp 24) rfl rfl rfl (m + 2) (by first | omega | (simp; done) | (simp; omega)) (by first | omega | (simp; done) | (simp; omega)) (by first | omega | (simp; done) | (simp; omega)) ?_; intro A1 c1 w1 own1 ho1 hat1 hc1 hd1; (try simp only [List.nil_append] at own1); have hz1 := ho1.size; (try simp at hz1)))
          go_roundw
          case rel => exact ⟨k + 1, m + 2, _, by omega, by go_num, by omega, own1, (by repeat (first | (with_reducible exact b_refl _) | (with_reducible refine b_alloc ?_ _) | (with_reducible refine b_drew ?_) | (with_reducible refine b_drewN ?_ _) | (with_reducible refine b_set ?_ ?_ _) | (with_reducible refine b_trans ?_ (by assumption)) | (with_reducible refine b_only ?_ (by assumption) ?_) | (with_reducible refine b_own ?_ (by assumption) ?_) | omega | (focus (intro g hg; simp [Value.ownBlock] at hg; done)) | (focus (intro g hg; simp [Value.ownBlock] at hg; omega)) | (focus (refine fun g hg => Nat.le_trans ?_ (World.ownsRow.lt (by assumption) g hg).1; first | omega | (simp; done) | (simp; omega))) | (focus (simp; done)) | (focus (simp; omega)))), by show _ = _; rw [ET.out, HY.out]; rfl⟩
          case measure => simp [intOf]; omega
        · have e1 : (x == 192) = false := by simpa using h1
          by_cases h2 : x = 219
          · subst h2
            go_wp2_with (at_builtin; refine at_app (.tmp 28) (.tmp 29) rfl ?_; go_must (refine wpList_app ((own_lift hown (by repeat (first | (with_reducible exact hown) | (with_reducible refine World.ownsRow.drew ?_) | (with_reducible refine own_drewN ?_ _) | (with_reducible refine World.ownsRow.alloc ?_ _) | (with_reducible refine own_below ?_ (by assumption)))))) (Ints.lit [219, 221] (Blk.new _ _ _)) rfl (.tmp 28) (.tmp 29) rfl rfl rfl (m + 2) (by first | omega | (simp; done) | (simp; omega)) (by first | omega | (simp; done) | (simp; omega)) (by first | omega | (simp; done) | (simp; omega)) ?_; intro A1 c1 w1 own1 ho1 hat1 hc1 hd1; (try simp only [List.nil_append] at own1); have hz1 := ho1.size; (try simp at hz1)))
            go_roundw
            case rel => exact ⟨k + 1, m + 2, _, by omega, by go_num, by omega, own1, (by repeat (first | (with_reducible exact b_refl _) | (with_reducible refine b_alloc ?_ _) | (with_reducible refine b_drew ?_) | (with_reducible refine b_drewN ?_ _) | (with_reducible refine b_set ?_ ?_ _) | (with_reducible refine b_trans ?_ (by assumption)) | (with_reducible refine b_only ?_ (by assumption) ?_) | (with_reducible refine b_own ?_ (by assumption) ?_) | omega | (focus (intro g hg; simp [Value.ownBlock] at hg; done)) | (focus (intro g hg; simp [Value.ownBlock] at hg; omega)) | (focus (refine fun g hg => Nat.le_trans ?_ (World.ownsRow.lt (by assumption) g hg).1; first | omega | (simp; done) | (simp; omega))) | (focus (simp; done)) | (focus (simp; omega)))), by show _ = _; rw [ET.out, HY.out]; rfl⟩
            case measure => simp [intOf]; omega
          · have e2 : (x == 219) = false := by simpa using h2
            have EX : Hid (esc x = [x]) := by show _ = _; rw [esc, if_neg h1, if_neg h2]
            clear h1 h2
            go_wp2_with (at_builtin; refine at_app (.tmp 17) (.tmp 19) rfl ?_; go_must (refine wpList_app ((own_lift hown (by repeat (first | (with_reducible exact hown) | (with_reducible refine World.ownsRow.drew ?_) | (with_reducible refine own_drewN ?_ _) | (with_reducible refine World.ownsRow.alloc ?_ _) | (with_reducible refine own_below ?_ (by assumption)))))) (Ints.lit [x] (Blk.new _ _ _)) rfl (.tmp 17) (.tmp 19) rfl rfl rfl (m + 1) (by first | omega | (simp; done) | (simp; omega)) (by first | omega | (simp; done) | (simp; omega)) (by first | omega | (simp; done) | (simp; omega)) ?_; intro A1 c1 w1 own1 ho1 hat1 hc1 hd1; (try simp only [List.nil_append] at own1); have hz1 := ho1.size; (try simp at hz1)))
            go_roundw
            case rel => exact ⟨k + 1, m + 1, _, by omega, by go_num, by omega, own1, (by repeat (first | (with_reducible exact b_refl _) | (with_reducible refine b_alloc ?_ _) | (with_reducible refine b_drew ?_) | (with_reducible refine b_drewN ?_ _) | (with_reducible refine b_set ?_ ?_ _) | (with_reducible refine b_trans ?_ (by assumption)) | (with_reducible refine b_only ?_ (by assumption) ?_) | (with_reducible refine b_own ?_ (by assumption) ?_) | omega | (focus (intro g hg; simp [Value.ownBlock] at hg; done)) | (focus (intro g hg; simp [Value.ownBlock] at hg; omega)) | (focus (refine fun g hg => Nat.le_trans ?_ (World.ownsRow.lt (by assumption) g hg).1; first | omega | (simp; done) | (simp; omega))) | (focus (simp; done)) | (focus (simp; omega)))), by show _ = _; rw [ET.out, HY.out, EX.out]⟩
            case measure => simp [intOf]; omega
      · obtain rfl : k = n := by omega
        go_wp2_with (at_builtin; refine at_app (.tmp 32) (.tmp 33) rfl ?_; go_must (refine wpList_app ((own_lift hown (by repeat (first | (with_reducible exact hown) | (with_reducible refine World.ownsRow.drew ?_) | (with_reducible refine own_drewN ?_ _) | (with_reducible refine World.ownsRow.alloc ?_ _) | (with_reducible refine own_below ?_ (by assumption)))))) (Ints.lit [192] (Blk.new _ _ _)) rfl (.tmp 32) (.tmp 33) rfl rfl rfl (m + 1) (by first | omega | (simp; done) | (simp; omega)) (by first | omega | (simp; done) | (simp; omega)) (by first | omega | (simp; done) | (simp; omega)) ?_; intro A1 c1 w1 own1 ho1 hat1 hc1 hd1; (try simp only [List.nil_append] at own1); have hz1 := ho1.size; (try simp at hz1)))
        have HZ : Hid (ys = escAll xs) := by
          have h := HY.out
          rwa [List.take_of_length_le (by have := HX.out; omega)] at h
        have hl : m + 1 = (packed xs).length := by
          have h1 := own1.1
          have h2 := HZ.out
          rw [h2] at h1
          simp [packed] at h1 ⊢
          omega
        have HL := Lib.hid hl
        clear hl
        have own2 : w1.ownsRow w.heap.size 3 1 (.slice A1 (m + 1) c1) (m + 1) ((packed xs).map (Value.int .i64)) := by
          have h2 := HZ.out
          subst h2
          exact own1
        go_ret2
        exact ⟨A1, m + 1, c1, rfl, HL.out, own2, hc1, hd1, (by repeat (first | (with_reducible exact b_refl _) | (with_reducible refine b_alloc ?_ _) | (with_reducible refine b_drew ?_) | (with_reducible refine b_drewN ?_ _) | (with_reducible refine b_set ?_ ?_ _) | (with_reducible refine b_trans ?_ (by assumption)) | (with_reducible refine b_only ?_ (by assumption) ?_) | (with_reducible refine b_own ?_ (by assumption) ?_) | omega | (focus (intro g hg; simp [Value.ownBlock] at hg; done)) | (focus (intro g hg; simp [Value.ownBlock] at hg; omega)) | (focus (refine fun g hg => Nat.le_trans ?_ (World.ownsRow.lt (by assumption) g hg).1; first | omega | (simp; done) | (simp; omega))) | (focus (simp; done)) | (focus (simp; omega))))⟩
  · have hf : packOk xs = false := by simpa using hok
    rw [hf]
    clear hok
    go_enter Tryd.func20, Tryd.ntmps20
    go_wp2_with (go_at_call 35; refine (packetValid_any _ _ _ _ _ hx hn).mono ?_; rintro e w' ⟨rfl, rfl⟩)
    go_ret2
    exact gives_nil _ (by repeat (first | (with_reducible exact b_refl _) | (with_reducible refine b_alloc ?_ _) | (with_reducible refine b_drew ?_) | (with_reducible refine b_drewN ?_ _) | (with_reducible refine b_set ?_ ?_ _) | (with_reducible refine b_trans ?_ (by assumption)) | (with_reducible refine b_only ?_ (by assumption) ?_) | omega | (focus (simp; done)) | (focus (simp; omega))))
end Go.Proofs.YtoeajbnjenceaaaDoor

/-
  SEVERAL PACKETS AS BYTES: PacketsBytes (the program's and the reference's), and the draw of packets. Condition: at most 2^20 elements in all.
-/
import Derived.Test.YtoeajbnjenceaaaDoorPacket
import Derived.Test.YtoeajbnjenceaaaDoorPacketDraw
import Derived.Test.YtoeajbnjenceaaaDoorListsMore
set_option linter.unusedVariables false
set_option linter.unusedSimpArgs false
namespace Go.Proofs.YtoeajbnjenceaaaDoor
open Go.ChangeShapes Go.WideShapes Go.ChangeAt Go.RowKit

def packsOk (xss : List (List Int)) : Bool := xss.all packOk && decide (xss.length ≤ 10)
def packedAll (xss : List (List Int)) : List Int := xss.flatMap packed
def packsOut (xss : List (List Int)) : List Int := if packsOk xss = true then packedAll xss else []
theorem packsOut_yes {xss : List (List Int)} (h : packsOk xss = true) : packsOut xss = packedAll xss := if_pos h
theorem packsOut_no {xss : List (List Int)} (h : packsOk xss = false) : packsOut xss = [] := if_neg (by simp [h])
theorem packedAll_take {xss : List (List Int)} {k : Nat} {xs : List Int} (h : xss[k]? = some xs) : packedAll (xss.take (k + 1)) = packedAll (xss.take k) ++ packed xs := by
  rw [List.take_add_one, h]
  simp [packedAll]
theorem allOk_take {xss : List (List Int)} {k : Nat} {xs : List Int} (h : xss[k]? = some xs) (h1 : (xss.take k).all packOk = true) (h2 : packOk xs = true) : (xss.take (k + 1)).all packOk = true := by
  rw [List.take_add_one, h]
  simp at h1 ⊢
  exact ⟨h1, h2⟩
theorem packsOk_no {xss : List (List Int)} {k : Nat} {xs : List Int} (h : xss[k]? = some xs) (h2 : packOk xs = false) : packsOk xss = false := by
  have hm := List.mem_of_getElem? h
  rw [← Bool.not_eq_true]
  intro h1
  simp only [packsOk, Bool.and_eq_true] at h1
  have := List.all_eq_true.1 h1.1 xs hm
  rw [h2] at this
  cases this
theorem packed_len {xs : List Int} (h : packOk xs = true) : (packed xs).length ≤ 41 := by
  have h1 := escAll_len xs
  have h2 := (packOk_parts h).2.2
  simp [packed]
  omega
theorem packedAll_len {xss : List (List Int)} (h : xss.all packOk = true) : (packedAll xss).length ≤ 41 * xss.length := by
  induction xss with
  | nil => simp [packedAll]
  | cons xs r ih =>
    simp only [List.all_cons, Bool.and_eq_true] at h
    have h1 := packed_len h.1
    have h2 := ih h.2
    simp only [packedAll, List.flatMap_cons, List.length_append, List.length_cons] at h2 ⊢
    omega
theorem spec_PacketBytes_ok (A : Option Addr) (n c : Nat) (xs : List Int) (w : World) (hx : Ints w A n xs) (hn : n ≤ 1048576) (h : packOk xs = true) :
    Calls Tryd.prog 21 #[.slice A n c] w (Gives (packed xs) true w) := by
  have := spec_PacketBytes A n c xs w hx hn
  rwa [if_pos h, h] at this
theorem spec_PacketBytes_no (A : Option Addr) (n c : Nat) (xs : List Int) (w : World) (hx : Ints w A n xs) (hn : n ≤ 1048576) (h : packOk xs = false) :
    Calls Tryd.prog 21 #[.slice A n c] w (Gives [] false w) := by
  have := spec_PacketBytes A n c xs w hx hn
  rwa [h] at this
theorem impl_PacketBytes_ok (A : Option Addr) (n c : Nat) (xs : List Int) (w : World) (hx : Ints w A n xs) (hn : n ≤ 1048576) (h : packOk xs = true) :
    Calls Tryd.prog 20 #[.slice A n c] w (Gives (packed xs) true w) := by
  have := impl_PacketBytes A n c xs w hx hn
  rwa [if_pos h, h] at this
theorem impl_PacketBytes_no (A : Option Addr) (n c : Nat) (xs : List Int) (w : World) (hx : Ints w A n xs) (hn : n ≤ 1048576) (h : packOk xs = false) :
    Calls Tryd.prog 20 #[.slice A n c] w (Gives [] false w) := by
  have := impl_PacketBytes A n c xs w hx hn
  rwa [h] at this
set_option maxHeartbeats 2000000 in
theorem spec_PacketsBytes (A : Option Addr) (n c : Nat) (ss : List Sl) (xss : List (List Int)) (w : World) (hx : Lists w A n ss xss) (hn : n ≤ 1048576) (ht : tot xss ≤ 1048576) :
    Calls Tryd.prog 26 #[.slice A n c] w (Gives (packsOut xss) (packsOk xss) w) := by
  have HX := Lib.hid hx.len
  go_enter Tryd.func26, Tryd.ntmps26
  go_wp2
  go_loopw [4, 5] (fun v i wr => ∃ (k m : Nat) (ys : List Int), k ≤ n ∧ i = .int .i64 k ∧ m ≤ 41 * k ∧ (0 < k → n ≤ 10) ∧ wr.ownsRow w.heap.size 3 1 v m (ys.map (Value.int .i64)) ∧ Below w.heap.size w wr ∧ Hid (ys = packedAll (xss.take k) ∧ (xss.take k).all packOk = true)) (fun _ i _ => n - (intOf i).toNat)
  case atStart => exact ⟨0, 0, [], Nat.zero_le _, rfl, Nat.zero_le _, by omega, own_empty w w.heap.size (Nat.le_refl _), (by repeat (first | (with_reducible exact b_refl _) | (with_reducible refine b_alloc ?_ _) | (with_reducible refine b_drew ?_) | (with_reducible refine b_drewN ?_ _) | (with_reducible refine b_set ?_ ?_ _) | (with_reducible refine b_trans ?_ (by assumption)) | (with_reducible refine b_only ?_ (by assumption) ?_) | omega | (focus (simp; done)) | (focus (simp; omega)))), by simp [packedAll], by simp⟩
  case round =>
    obtain ⟨k, m, ys, hk, rfl, hm, hk10, hown, hbr, HY⟩ := hrel
    have hsz := hbr.size
    by_cases hlt : k < n
    · obtain ⟨b, o, B, p, c', xs, rfl, hb, hs, ex, hc0, hi, hpc, hcm⟩ := hx.at_ hlt
      have hc := (hbr.cell (p := ⟨b, o + k, none⟩) hb).trans hc0
      have hp : p ≤ 1048576 := by
        have h1 := len_le_tot ex
        have h2 := hi.len
        omega
      have hi2 := hi.below hbr
      have EX := Lib.hid ex
      clear ex hs hc0 hi
      by_cases hok : packOk xs = true
      · by_cases h10 : n ≤ 10
        · have h11 : ¬ 10 < (n : Int) := by omega
          go_wp2_with fail
          (with_reducible refine (spec_PacketBytes_ok B p c' xs _ hi2 hp hok).mono ?_); rintro e w1 ⟨A1, m1, c1, rfl, hm1, ho1, hc1, hd1, hb1⟩; have hz1 := hb1.size; (try simp at hz1)
          have hm9 : m1 ≤ 41 := by have := packed_len hok; omega
          have HM := Lib.hid hm1
          have hown1 := own_below hown hb1
          have hs1 := hb1.size
          have HK := Lib.hid hok
          clear hm1 hown hok
          go_wp2_with (at_builtin; refine at_app (.tmp 31) (.tmp 32) rfl ?_; go_must (refine wpList_app ((own_lift hown1 (by repeat (first | (with_reducible exact hown1) | (with_reducible refine World.ownsRow.drew ?_) | (with_reducible refine own_drewN ?_ _) | (with_reducible refine World.ownsRow.alloc ?_ _) | (with_reducible refine own_below ?_ (by assumption)))))) (Ints.of_own ho1) rfl (.tmp 31) (.tmp 32) rfl rfl rfl (m + m1) (by first | omega | (simp; done) | (simp; omega)) (by first | omega | (simp; done) | (simp; omega)) (by first | omega | (simp; done) | (simp; omega)) ?_; intro A2 c2 w2 own2 ho2 hat2 hc2 hd2; (try simp only [List.nil_append] at own2); have hz2 := ho2.size; (try simp at hz2)))
          go_roundw
          case rel => exact ⟨k + 1, m + m1, _, by omega, by go_num, by omega, fun _ => h10, own2, b_own (b_trans hbr hb1) ho2 (fun g hg => (hown1.lt g hg).1), by show _ = _; rw [packedAll_take EX.out, HY.out.1], allOk_take EX.out HY.out.2 HK.out⟩
          case measure => simp [intOf]; omega
        · have h11 : 10 < (n : Int) := by omega
          have hno : packsOk xss = false := by have := HX.out; simp [packsOk]; omega
          rw [packsOut_no hno, hno]
          go_wp2_with fail
          (with_reducible refine (spec_PacketBytes_ok B p c' xs _ hi2 hp hok).mono ?_); rintro e w1 ⟨A1, m1, c1, rfl, hm1, ho1, hc1, hd1, hb1⟩; have hz1 := hb1.size; (try simp at hz1)
          have hs1 := hb1.size
          clear hm1 hno hok
          go_wp2
          go_ret2
          exact ⟨_, 0, _, rfl, rfl, own_empty w1 _ (by omega), Nat.le_refl _, by unfold maxLen; omega, b_alloc (b_trans hbr hb1) _⟩
      · have hno2 : packOk xs = false := by simpa using hok
        rw [packsOut_no (packsOk_no EX.out hno2), packsOk_no EX.out hno2]
        go_wp2_with fail
        (with_reducible refine (spec_PacketBytes_no B p c' xs _ hi2 hp hno2).mono ?_); rintro e w1 ⟨A1, m1, c1, rfl, hm1, ho1, hc1, hd1, hb1⟩; have hz1 := hb1.size; (try simp at hz1)
        have hs1 := hb1.size
        clear hm1 hno2 hok
        go_wp2
        go_ret2
        exact ⟨_, 0, _, rfl, rfl, own_empty w1 _ (by omega), Nat.le_refl _, by unfold maxLen; omega, b_alloc (b_trans hbr hb1) _⟩
    · obtain rfl : k = n := by omega
      obtain ⟨h1, h2⟩ := HY.out
      rw [List.take_of_length_le (by have := HX.out; omega)] at h1 h2
      have hok : packsOk xss = true := by
        have h3 := HX.out
        simp only [packsOk, h2, Bool.true_and, decide_eq_true_eq]
        rcases Nat.eq_zero_or_pos k with h0 | h0
        · omega
        · have := hk10 h0; omega
      have HZ : Hid (packsOut xss = ys) := by show _ = _; rw [packsOut_yes hok, h1]
      have HB := Lib.hid hok
      have HL : Hid (m = ys.length) := by show _ = _; have := hown.1; simp at this; exact this.symm
      clear hok h1 h2 HY
      obtain ⟨A1, c1, rfl, hc1, hd1⟩ := own_form hown
      go_wp2
      go_ret2
      exact ⟨A1, m, c1, (by rw [HB.out]; rfl), (by rw [HZ.out]; exact HL.out), (by rw [HZ.out]; exact hown), hc1, hd1, hbr⟩
set_option maxHeartbeats 2000000 in
theorem impl_PacketsBytes (A : Option Addr) (n c : Nat) (ss : List Sl) (xss : List (List Int)) (w : World) (hx : Lists w A n ss xss) (hn : n ≤ 1048576) (ht : tot xss ≤ 1048576) :
    Calls Tryd.prog 25 #[.slice A n c] w (Gives (packsOut xss) (packsOk xss) w) := by
  have HX := Lib.hid hx.len
  by_cases h10 : n ≤ 10
  · have h11 : ¬ 10 < (n : Int) := by omega
    go_enter Tryd.func25, Tryd.ntmps25
    go_wp2
    go_loopw [4, 14] (fun v i wr => ∃ (k m : Nat) (ys : List Int), k ≤ n ∧ i = .int .i64 k ∧ m ≤ 41 * k ∧ wr.ownsRow w.heap.size 3 1 v m (ys.map (Value.int .i64)) ∧ Below w.heap.size w wr ∧ Hid (ys = packedAll (xss.take k) ∧ (xss.take k).all packOk = true)) (fun _ i _ => n - (intOf i).toNat)
    case atStart => exact ⟨0, 0, [], Nat.zero_le _, rfl, Nat.zero_le _, own_nil w w.heap.size, (by repeat (first | (with_reducible exact b_refl _) | (with_reducible refine b_alloc ?_ _) | (with_reducible refine b_drew ?_) | (with_reducible refine b_drewN ?_ _) | (with_reducible refine b_set ?_ ?_ _) | (with_reducible refine b_trans ?_ (by assumption)) | (with_reducible refine b_only ?_ (by assumption) ?_) | omega | (focus (simp; done)) | (focus (simp; omega)))), by simp [packedAll], by simp⟩
    case round =>
      obtain ⟨k, m, ys, hk, rfl, hm, hown, hbr, HY⟩ := hrel
      have hsz := hbr.size
      by_cases hlt : k < n
      · obtain ⟨b, o, B, p, c', xs, rfl, hb, hs, ex, hc0, hi, hpc, hcm⟩ := hx.at_ hlt
        have hc := (hbr.cell (p := ⟨b, o + k, none⟩) hb).trans hc0
        have hp : p ≤ 1048576 := by
          have h1 := len_le_tot ex
          have h2 := hi.len
          omega
        have hi2 := hi.below hbr
        have EX := Lib.hid ex
        clear ex hs hc0 hi
        by_cases hok : packOk xs = true
        · skip
          go_wp2_with fail
          (with_reducible refine (impl_PacketBytes_ok B p c' xs _ hi2 hp hok).mono ?_); rintro e w1 ⟨A1, m1, c1, rfl, hm1, ho1, hc1, hd1, hb1⟩; have hz1 := hb1.size; (try simp at hz1)
          have hm9 : m1 ≤ 41 := by have := packed_len hok; omega
          have HM := Lib.hid hm1
          have hown1 := own_below hown hb1
          have hs1 := hb1.size
          have HK := Lib.hid hok
          clear hm1 hown hok
          go_wp2_with (at_builtin; refine at_app (.tmp 25) (.tmp 26) rfl ?_; go_must (refine wpList_app ((own_lift hown1 (by repeat (first | (with_reducible exact hown1) | (with_reducible refine World.ownsRow.drew ?_) | (with_reducible refine own_drewN ?_ _) | (with_reducible refine World.ownsRow.alloc ?_ _) | (with_reducible refine own_below ?_ (by assumption)))))) (Ints.of_own ho1) rfl (.tmp 25) (.tmp 26) rfl rfl rfl (m + m1) (by first | omega | (simp; done) | (simp; omega)) (by first | omega | (simp; done) | (simp; omega)) (by first | omega | (simp; done) | (simp; omega)) ?_; intro A2 c2 w2 own2 ho2 hat2 hc2 hd2; (try simp only [List.nil_append] at own2); have hz2 := ho2.size; (try simp at hz2)))
          go_roundw
          case rel => exact ⟨k + 1, m + m1, _, by omega, by go_num, by omega, own2, b_own (b_trans hbr hb1) ho2 (fun g hg => (hown1.lt g hg).1), by show _ = _; rw [packedAll_take EX.out, HY.out.1], allOk_take EX.out HY.out.2 HK.out⟩
          case measure => simp [intOf]; omega
        · have hno2 : packOk xs = false := by simpa using hok
          rw [packsOut_no (packsOk_no EX.out hno2), packsOk_no EX.out hno2]
          go_wp2_with fail
          (with_reducible refine (impl_PacketBytes_no B p c' xs _ hi2 hp hno2).mono ?_); rintro e w1 ⟨A1, m1, c1, rfl, hm1, ho1, hc1, hd1, hb1⟩; have hz1 := hb1.size; (try simp at hz1)
          clear hm1 hno2 hok
          go_wp2
          go_ret2
          exact gives_nil _ (b_trans hbr hb1)
      · obtain rfl : k = n := by omega
        obtain ⟨h1, h2⟩ := HY.out
        rw [List.take_of_length_le (by have := HX.out; omega)] at h1 h2
        have hok : packsOk xss = true := by
          have h3 := HX.out
          simp only [packsOk, h2, Bool.true_and, decide_eq_true_eq]
          omega
        have HZ : Hid (packsOut xss = ys) := by show _ = _; rw [packsOut_yes hok, h1]
        have HB := Lib.hid hok
        have HL : Hid (m = ys.length) := by show _ = _; have := hown.1; simp at this; exact this.symm
        clear hok h1 h2 HY
        obtain ⟨A1, c1, rfl, hc1, hd1⟩ := own_form hown
        go_wp2
        go_ret2
        exact ⟨A1, m, c1, (by rw [HB.out]; rfl), (by rw [HZ.out]; exact HL.out), (by rw [HZ.out]; exact hown), hc1, hd1, hbr⟩
  · have h11 : 10 < (n : Int) := by omega
    have hno : packsOk xss = false := by have := HX.out; simp [packsOk]; omega
    rw [packsOut_no hno, hno]
    clear hno
    go_enter Tryd.func25, Tryd.ntmps25
    go_wp2
    go_ret2
    exact gives_nil _ (by repeat (first | (with_reducible exact b_refl _) | (with_reducible refine b_alloc ?_ _) | (with_reducible refine b_drew ?_) | (with_reducible refine b_drewN ?_ _) | (with_reducible refine b_set ?_ ?_ _) | (with_reducible refine b_trans ?_ (by assumption)) | (with_reducible refine b_only ?_ (by assumption) ?_) | omega | (focus (simp; done)) | (focus (simp; omega))))
end Go.Proofs.YtoeajbnjenceaaaDoor

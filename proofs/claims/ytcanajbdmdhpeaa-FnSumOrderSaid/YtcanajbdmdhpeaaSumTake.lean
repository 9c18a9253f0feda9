/-
  SumPut AND SumTake, the program's and the reference's. Condition: at most 2^40 elements.
-/
import Derived.Test.YtcanajbdmdhpeaaSums
import Derived.Test.YtcanajbdmdhpeaaAppend
set_option linter.unusedVariables false
set_option linter.unusedSimpArgs false
namespace Go.Proofs.Ytcanajbdmdhpeaa
open Go.ChangeShapes Go.WideShapes Go.ChangeAt Go.RowKit

/-- What it leaves: a list of the call's own, and a truth. -/
def Gives (xs : List Int) (b : Bool) (w : World) (e : Ending) (w' : World) : Prop :=
  ∃ (A : Option Addr) (m c : Nat), e = .returned (.tuple #[.slice A m c, .bool b]) ∧ m = xs.length ∧ w'.ownsRow w.heap.size 3 1 (.slice A m c) m (xs.map (Value.int .i64)) ∧ m ≤ c ∧ c ≤ maxLen ∧ Below w.heap.size w w'
theorem gives_nil (w : World) {w' : World} (h : Below w.heap.size w w') : Gives [] false w (.returned (.tuple #[.slice none 0 0, .bool false])) w' := ⟨none, 0, 0, rfl, rfl, own_nil _ _, Nat.le_refl _, by unfold maxLen; omega, h⟩
/-- A list with its sums behind it. -/
def sumPut (xs : List Int) : List Int := xs ++ [(sums xs).1, (sums xs).2]
def putOk (xs : List Int) : Bool := bytesOk xs && decide (xs.length ≤ 18)
set_option maxHeartbeats 1000000 in
theorem spec_SumPut (A : Option Addr) (n c : Nat) (xs : List Int) (w : World) (hx : Ints w A n xs) (hn : n ≤ 1099511627776) :
    Calls Try.prog 17 #[.slice A n c] w (Gives (if putOk xs = true then sumPut xs else []) (putOk xs) w) := by
  have hl := hx.len
  by_cases h1 : bytesOk xs = true
  · by_cases h2 : n ≤ 18
    · have hok : putOk xs = true := by simp [putOk, h1]; omega
      rw [if_pos hok, hok]
      have h3 : ¬ 20 < (n : Int) + 2 := by omega
      have h4 : (n : Int) + 2 ≤ 20 := by omega
      have HL := Lib.hid hl
      clear hl hok
      go_enter Try.func17, Try.ntmps17
      go_wp2_with (first | (go_at_call 27; refine (l4Bytes_any _ _ _ _ _ hx hn).mono ?_; rintro e w' ⟨rfl, rfl⟩) | (go_at_call 28; refine (l32Sum_any _ _ _ _ _ hx hn h1).mono ?_; rintro e w' ⟨rfl, rfl⟩) | (at_builtin; refine at_app (.tmp 21) (.tmp 22) rfl ?_; go_must (refine wpList_app (own_empty w w.heap.size (Nat.le_refl _)) (hx.alloc _) rfl (.tmp 21) (.tmp 22) rfl rfl rfl (n) (by first | omega | (simp; done) | (simp; omega)) (by first | omega | (simp; done) | (simp; omega)) (by first | omega | (simp; done) | (simp; omega)) ?_; intro A1 c1 w1 own1 ho1 hat1 hc1 hd1; (try simp only [List.nil_append] at own1); have hz1 := ho1.size; (try simp at hz1))) | (at_builtin; refine at_app (.tmp 23) (.tmp 26) rfl ?_; go_must (refine wpList_app ((own_lift own1 (by repeat (first | (with_reducible exact own1) | (with_reducible refine World.ownsRow.drew ?_) | (with_reducible refine own_drewN ?_ _) | (with_reducible refine World.ownsRow.alloc ?_ _) | (with_reducible refine own_below ?_ (by assumption)))))) (Ints.lit [(sums xs).1, (sums xs).2] (Blk.new _ _ _)) rfl (.tmp 23) (.tmp 26) rfl rfl rfl (n + 2) (by first | omega | (simp; done) | (simp; omega)) (by first | omega | (simp; done) | (simp; omega)) (by first | omega | (simp; done) | (simp; omega)) ?_; intro A2 c2 w2 own2 ho2 hat2 hc2 hd2; (try simp only [List.nil_append] at own2); have hz2 := ho2.size; (try simp at hz2))))
      go_ret2
      refine ⟨_, _, _, rfl, by rw [sumPut]; simp; exact HL.out.symm, own_mono (by simpa [sumPut] using own2) (by omega), hc2, hd2, ?_⟩
      exact b_own (b_alloc (b_own (b_alloc (b_refl w) _) ho1 (fun g hg => by simp [Value.ownBlock] at hg; omega)) _) ho2 (fun g hg => (own1.lt g hg).1)
    · have hok : putOk xs = false := by simp [putOk, h1]; omega
      rw [hok]
      have h3 : 20 < (n : Int) + 2 := by omega
      clear hl hok
      go_enter Try.func17, Try.ntmps17
      go_wp2_with (go_at_call 27; refine (l4Bytes_any _ _ _ _ _ hx hn).mono ?_; rintro e w' ⟨rfl, rfl⟩)
      go_ret2
      exact ⟨_, 0, _, rfl, rfl, own_empty w _ (Nat.le_refl _), Nat.le_refl _, by unfold maxLen; omega, (by repeat (first | (with_reducible exact b_refl _) | (with_reducible refine b_alloc ?_ _) | (with_reducible refine b_drew ?_) | (with_reducible refine b_drewN ?_ _) | (with_reducible refine b_set ?_ ?_ _) | (with_reducible refine b_trans ?_ (by assumption)) | (with_reducible refine b_only ?_ (by assumption) ?_) | omega | (focus (simp; done)) | (focus (simp; omega))))⟩
  · have h2 : bytesOk xs = false := by simpa using h1
    have hok : putOk xs = false := by simp [putOk, h2]
    rw [hok]
    clear hl hok h1
    go_enter Try.func17, Try.ntmps17
    go_wp2_with (go_at_call 27; refine (l4Bytes_any _ _ _ _ _ hx hn).mono ?_; rintro e w' ⟨rfl, rfl⟩)
    go_ret2
    exact ⟨_, 0, _, rfl, rfl, own_empty w _ (Nat.le_refl _), Nat.le_refl _, by unfold maxLen; omega, (by repeat (first | (with_reducible exact b_refl _) | (with_reducible refine b_alloc ?_ _) | (with_reducible refine b_drew ?_) | (with_reducible refine b_drewN ?_ _) | (with_reducible refine b_set ?_ ?_ _) | (with_reducible refine b_trans ?_ (by assumption)) | (with_reducible refine b_only ?_ (by assumption) ?_) | omega | (focus (simp; done)) | (focus (simp; omega))))⟩
set_option maxHeartbeats 2000000 in
theorem impl_SumPut (A : Option Addr) (n c : Nat) (xs : List Int) (w : World) (hx : Ints w A n xs) (hn : n ≤ 1099511627776) :
    Calls Try.prog 18 #[.slice A n c] w (Gives (if putOk xs = true then sumPut xs else []) (putOk xs) w) := by
  have hl := hx.len
  by_cases h2 : n ≤ 18
  · have h4 : ¬ 18 < (n : Int) := by omega
    by_cases h1 : bytesOk xs = true
    · have hok : putOk xs = true := by simp [putOk, h1]; omega
      rw [if_pos hok, hok]
      have HL := Lib.hid hl
      clear hl hok
      go_enter Try.func18, Try.ntmps18
      go_wp2_with (first | (go_at_call 29; refine (allBytes_any _ _ _ _ _ hx hn).mono ?_; rintro e w' ⟨rfl, rfl⟩) | (go_at_call 30; go_must ((with_reducible refine (sumsOf_any _ _ _ _ _ hx hn h1).mono ?_); rintro e w1 ⟨rfl, hb1⟩; have hz1 := hb1.size; (try simp at hz1))))
      have hN := Blk.new w1 35 #[.int .i64 (sums xs).1, .int .i64 (sums xs).2]
      have hx1 := hx.below hb1
      first | (go_region_held3 (fun w' => w'.cell? ⟨w1.heap.size, 0, none⟩ = some (.int .i64 (sums xs).1) ∧ w'.cell? ⟨w1.heap.size, 1, none⟩ = some (.int .i64 (sums xs).2)) (first | (go_simp; done) | (go_keep; done)) (first | (refine at_apps (.const (.slice none 0 0)) (.tmp 15) rfl ?_; go_must (refine step_app (own_nil _ (w1.heap.size + 1)) ((Ints.lift hx1 (by repeat (first | (with_reducible exact hx1) | (with_reducible refine Ints.drew ?_) | (with_reducible refine Ints.drewN ?_ _) | (with_reducible refine Ints.alloc ?_ _) | (with_reducible refine Ints.below ?_ (by assumption)))))) rfl (.const (.slice none 0 0)) (.tmp 15) rfl rfl rfl (n) (by first | omega | (simp; done) | (simp; omega)) (by first | omega | (simp; done) | (simp; omega)) (by first | omega | (simp; done) | (simp; omega)) ?_; intro A2 c2 w2 own2 ho2 hat2 hc2 hd2; (try simp only [List.nil_append] at own2); have hz2 := ho2.size; (try simp at hz2); have N2 := Blk.liftO hN ho2 (by repeat (first | (with_reducible exact hN) | (with_reducible refine Blk.drew ?_) | (with_reducible refine Blk.drewN ?_ _) | (with_reducible refine Blk.alloc ?_ _) | (with_reducible refine Blk.far ?_ ?_ _) | omega | (focus (simp; done)) | (focus (simp; omega)))) (by first | omega | (simp; done) | (simp; omega) | (simp [Value.ownBlock]; done)); have N2l := N2.lt; have N2c0 := N2.cell 0; have N2f0 := N2.frozen 0; have N2c1 := N2.cell 1; have N2f1 := N2.frozen 1; (try simp at N2c0 N2c1); try (have L2 := (Blk.new (w1.alloc (.cells #[.int .i64 (sums xs).1, .int .i64 (sums xs).2] 35)).drew 3 #[.int .i64 (sums xs).1, .int .i64 (sums xs).2]).grown ho2 (by simp [Value.ownBlock]); simp at L2))) | (refine at_apps (.tmp 16) (.tmp 21) rfl ?_; go_must (refine step_app ((own_lift own2 (by repeat (first | (with_reducible exact own2) | (with_reducible refine World.ownsRow.drew ?_) | (with_reducible refine own_drewN ?_ _) | (with_reducible refine World.ownsRow.alloc ?_ _) | (with_reducible refine own_below ?_ (by assumption)))))) (by first | exact Ints.lit [(sums xs).1, (sums xs).2] (Blk.new _ _ _) | exact Ints.lit [(sums xs).1, (sums xs).2] L2) rfl (.tmp 16) (.tmp 21) rfl rfl rfl (n + 2) (by first | omega | (simp; done) | (simp; omega)) (by first | omega | (simp; done) | (simp; omega)) (by first | omega | (simp; done) | (simp; omega)) ?_; intro A3 c3 w3 own3 ho3 hat3 hc3 hd3; (try simp only [List.nil_append] at own3); have hz3 := ho3.size; (try simp at hz3); have N3 := Blk.liftO N2 ho3 (by repeat (first | (with_reducible exact N2) | (with_reducible refine Blk.drew ?_) | (with_reducible refine Blk.drewN ?_ _) | (with_reducible refine Blk.alloc ?_ _) | (with_reducible refine Blk.far ?_ ?_ _) | omega | (focus (simp; done)) | (focus (simp; omega)))) (by first | omega | (simp; done) | (simp; omega) | (simp [Value.ownBlock]; done) | (intro e; have := (own2.lt _ e.symm).1; omega)); have N3l := N3.lt; have N3c0 := N3.cell 0; have N3f0 := N3.frozen 0; have N3c1 := N3.cell 1; have N3f1 := N3.frozen 1; (try simp at N3c0 N3c1))))) | fail
      all_goals
       go_wp2
       go_ret2
       exact ⟨_, _, _, rfl, by simp [sumPut]; exact HL.out.symm, own_mono (by simpa [sumPut] using own3) (by omega), hc3, hd3, (by repeat (first | (with_reducible exact b_refl _) | (with_reducible refine b_alloc ?_ _) | (with_reducible refine b_drew ?_) | (with_reducible refine b_drewN ?_ _) | (with_reducible refine b_set ?_ ?_ _) | (with_reducible refine b_trans ?_ (by assumption)) | (with_reducible refine b_only ?_ (by assumption) ?_) | (with_reducible refine b_own ?_ (by assumption) ?_) | omega | (focus (intro g hg; simp [Value.ownBlock] at hg; done)) | (focus (intro g hg; simp [Value.ownBlock] at hg; omega)) | (focus (refine fun g hg => Nat.le_trans ?_ (World.ownsRow.lt (by assumption) g hg).1; first | omega | (simp; done) | (simp; omega))) | (focus (simp; done)) | (focus (simp; omega))))⟩
    · have h3 : bytesOk xs = false := by simpa using h1
      have hok : putOk xs = false := by simp [putOk, h3]
      rw [hok]
      clear hl hok h1
      go_enter Try.func18, Try.ntmps18
      go_wp2_with (go_at_call 29; refine (allBytes_any _ _ _ _ _ hx hn).mono ?_; rintro e w' ⟨rfl, rfl⟩)
      go_ret2
      exact gives_nil _ (by repeat (first | (with_reducible exact b_refl _) | (with_reducible refine b_alloc ?_ _) | (with_reducible refine b_drew ?_) | (with_reducible refine b_drewN ?_ _) | (with_reducible refine b_set ?_ ?_ _) | (with_reducible refine b_trans ?_ (by assumption)) | (with_reducible refine b_only ?_ (by assumption) ?_) | omega | (focus (simp; done)) | (focus (simp; omega))))
  · have hok : putOk xs = false := by simp [putOk]; omega
    rw [hok]
    have h4 : 18 < (n : Int) := by omega
    clear hl hok
    go_enter Try.func18, Try.ntmps18
    go_wp2
    go_ret2
    exact gives_nil _ (by repeat (first | (with_reducible exact b_refl _) | (with_reducible refine b_alloc ?_ _) | (with_reducible refine b_drew ?_) | (with_reducible refine b_drewN ?_ _) | (with_reducible refine b_set ?_ ?_ _) | (with_reducible refine b_trans ?_ (by assumption)) | (with_reducible refine b_only ?_ (by assumption) ?_) | omega | (focus (simp; done)) | (focus (simp; omega))))
/-- What is in front of right sums. -/
def takeOk (xs : List Int) : Bool := bytesOk xs && decide (2 ≤ xs.length) && decide (xs.length ≤ 20) && decide (xs.drop (xs.length - 2) = [(sums (xs.take (xs.length - 2))).1, (sums (xs.take (xs.length - 2))).2])
theorem last_two {xs : List Int} {n : Nat} (h : xs.length = n + 2) : ∃ y z, xs[n]? = some y ∧ xs[n + 1]? = some z ∧ xs.drop n = [y, z] := by
  refine ⟨xs[n], xs[n + 1], List.getElem?_eq_getElem (by omega), List.getElem?_eq_getElem (by omega), ?_⟩
  rw [List.drop_eq_getElem_cons (by omega), List.drop_eq_getElem_cons (by omega), List.drop_eq_nil_of_le (by omega)]
theorem takeOk_eq {xs : List Int} {n : Nat} {y z : Int} (h : xs.length = n + 2) (hB : bytesOk xs = true) (h20 : n ≤ 18) (hd : xs.drop n = [y, z]) : takeOk xs = (decide (y = (sums (xs.take n)).1) && decide (z = (sums (xs.take n)).2)) := by
  have e : xs.length - 2 = n := by omega
  have h2 : 2 ≤ xs.length := by omega
  have h3 : xs.length ≤ 20 := by omega
  simp only [takeOk, e, hd, hB, h2, h3, decide_true, Bool.and_true, Bool.true_and]
  rw [Bool.eq_iff_iff]
  simp
theorem takeOk_bytes {xs : List Int} (h : bytesOk xs = false) : takeOk xs = false := by simp [takeOk, h]
theorem takeOk_len {xs : List Int} (h : xs.length < 2 ∨ 20 < xs.length) : takeOk xs = false := by
  simp only [takeOk, Bool.and_eq_false_iff, decide_eq_false_iff_not]
  omega
set_option maxHeartbeats 2000000 in
theorem spec_SumTake (A : Option Addr) (n c : Nat) (xs : List Int) (w : World) (hx : Ints w A n xs) (hn : n ≤ 1099511627776) (hnc : n ≤ c) (hcm : c ≤ maxLen) :
    Calls Try.prog 21 #[.slice A n c] w (Gives (if takeOk xs = true then xs.take (xs.length - 2) else []) (takeOk xs) w) := by
  have hl := hx.len
  unfold maxLen at hcm
  by_cases h1 : bytesOk xs = true
  · by_cases h2 : n < 2
    · rw [takeOk_len (by omega)]
      clear hl
      have h3 : (n : Int) - 2 < 0 := by omega
      go_enter Try.func21, Try.ntmps21
      go_wp2_with (go_at_call 27; refine (l4Bytes_any _ _ _ _ _ hx hn).mono ?_; rintro e w' ⟨rfl, rfl⟩)
      go_ret2
      exact ⟨_, 0, _, rfl, rfl, own_empty w _ (Nat.le_refl _), Nat.le_refl _, by unfold maxLen; omega, (by repeat (first | (with_reducible exact b_refl _) | (with_reducible refine b_alloc ?_ _) | (with_reducible refine b_drew ?_) | (with_reducible refine b_drewN ?_ _) | (with_reducible refine b_set ?_ ?_ _) | (with_reducible refine b_trans ?_ (by assumption)) | (with_reducible refine b_only ?_ (by assumption) ?_) | omega | (focus (simp; done)) | (focus (simp; omega))))⟩
    · by_cases h20 : 20 < n
      · rw [takeOk_len (by omega)]
        clear hl
        have h3 : ¬ (n : Int) - 2 < 0 := by omega
        have h4 : 20 < (n : Int) := by omega
        go_enter Try.func21, Try.ntmps21
        go_wp2_with (go_at_call 27; refine (l4Bytes_any _ _ _ _ _ hx hn).mono ?_; rintro e w' ⟨rfl, rfl⟩)
        go_ret2
        exact ⟨_, 0, _, rfl, rfl, own_empty w _ (Nat.le_refl _), Nat.le_refl _, by unfold maxLen; omega, (by repeat (first | (with_reducible exact b_refl _) | (with_reducible refine b_alloc ?_ _) | (with_reducible refine b_drew ?_) | (with_reducible refine b_drewN ?_ _) | (with_reducible refine b_set ?_ ?_ _) | (with_reducible refine b_trans ?_ (by assumption)) | (with_reducible refine b_only ?_ (by assumption) ?_) | omega | (focus (simp; done)) | (focus (simp; omega))))⟩
      · obtain ⟨m, rfl⟩ : ∃ m, n = m + 2 := ⟨n - 2, by omega⟩
        obtain ⟨y, z, hy, hz, hd⟩ := last_two hl
        have HT := Lib.hid (takeOk_eq hl h1 (by omega) hd)
        obtain ⟨b, o, y', rfl, hb, ey, cy⟩ := hx.at_ (k := m) (by omega)
        rw [hy] at ey
        injection ey with ey
        subst ey
        obtain ⟨b', o', z', eA, _, ez, cz⟩ := hx.at_ (k := m + 1) (by omega)
        injection eA with eA
        injection eA with e1 e2
        subst e1; subst e2
        rw [hz] at ez
        injection ez with ez
        subst ez
        have hx0 := hx.take (k := m) (by omega)
        have hB0 := bytesOk_take h1 m
        have HL := Lib.hid hl
        have hm3 : ¬ ((m + 2 : Nat) : Int) - 2 < 0 := by omega
        have hm4 : ¬ 20 < ((m + 2 : Nat) : Int) := by omega
        have hm5 : ((m + 2 : Nat) : Int) - 2 = m := by omega
        rw [show xs.length - 2 = m from by omega]
        have ho0 := hx.at_ (k := m) (by omega)
        clear hl hy hz hd ho0
        by_cases q1 : y = (sums (xs.take m)).1
        · by_cases q2 : z = (sums (xs.take m)).2
          · have ht : takeOk xs = true := by rw [HT.out, q1, q2]; simp
            rw [ht, if_pos rfl]
            rw [q1] at cy
            rw [q2] at cz
            clear q1 q2 ht
            go_enter Try.func21, Try.ntmps21
            go_wp2_with (first | (go_at_call 27; refine (l4Bytes_any _ _ _ _ _ hx hn).mono ?_; rintro e w' ⟨rfl, rfl⟩) | (go_at_call 28; refine (l32Sum_any _ _ _ _ _ hx0 (by omega) hB0).mono ?_; rintro e w' ⟨rfl, rfl⟩) | (at_builtin; refine at_app (.tmp 46) (.tmp 49) rfl ?_; go_must (refine wpList_app (own_empty _ w.heap.size (Nat.le_refl _)) ((Ints.lift hx0 (by repeat (first | (with_reducible exact hx0) | (with_reducible refine Ints.drew ?_) | (with_reducible refine Ints.drewN ?_ _) | (with_reducible refine Ints.alloc ?_ _) | (with_reducible refine Ints.below ?_ (by assumption)))))) rfl (.tmp 46) (.tmp 49) rfl rfl rfl (m) (by first | omega | (simp; done) | (simp; omega)) (by first | omega | (simp; done) | (simp; omega)) (by first | omega | (simp; done) | (simp; omega)) ?_; intro A1 c1 w1 own1 ho1 hat1 hc1 hd1; (try simp only [List.nil_append] at own1); have hz1 := ho1.size; (try simp at hz1))))
            go_ret2
            exact ⟨_, _, _, rfl, by have := HL.out; simp; omega, own_mono own1 (by omega), hc1, hd1, b_own (b_alloc (b_refl w) _) ho1 (fun g hg => by simp [Value.ownBlock] at hg; omega)⟩
          · have ht : takeOk xs = false := by rw [HT.out]; simp [q2]
            rw [ht]
            rw [q1] at cy
            have q3 : (z == (sums (xs.take m)).2) = false := by simpa using q2
            have q4 : (z != (sums (xs.take m)).2) = true := by simpa using q2
            clear q1 q2 ht
            go_enter Try.func21, Try.ntmps21
            go_wp2_with (first | (go_at_call 27; refine (l4Bytes_any _ _ _ _ _ hx hn).mono ?_; rintro e w' ⟨rfl, rfl⟩) | (go_at_call 28; refine (l32Sum_any _ _ _ _ _ hx0 (by omega) hB0).mono ?_; rintro e w' ⟨rfl, rfl⟩))
            go_ret2
            exact ⟨_, 0, _, rfl, rfl, own_empty w _ (Nat.le_refl _), Nat.le_refl _, by unfold maxLen; omega, (by repeat (first | (with_reducible exact b_refl _) | (with_reducible refine b_alloc ?_ _) | (with_reducible refine b_drew ?_) | (with_reducible refine b_drewN ?_ _) | (with_reducible refine b_set ?_ ?_ _) | (with_reducible refine b_trans ?_ (by assumption)) | (with_reducible refine b_only ?_ (by assumption) ?_) | omega | (focus (simp; done)) | (focus (simp; omega))))⟩
        · have ht : takeOk xs = false := by rw [HT.out]; simp [q1]
          rw [ht]
          have q3 : (y == (sums (xs.take m)).1) = false := by simpa using q1
          have q4 : (y != (sums (xs.take m)).1) = true := by simpa using q1
          clear q1 ht
          go_enter Try.func21, Try.ntmps21
          go_wp2_with (first | (go_at_call 27; refine (l4Bytes_any _ _ _ _ _ hx hn).mono ?_; rintro e w' ⟨rfl, rfl⟩) | (go_at_call 28; refine (l32Sum_any _ _ _ _ _ hx0 (by omega) hB0).mono ?_; rintro e w' ⟨rfl, rfl⟩))
          go_ret2
          exact ⟨_, 0, _, rfl, rfl, own_empty w _ (Nat.le_refl _), Nat.le_refl _, by unfold maxLen; omega, (by repeat (first | (with_reducible exact b_refl _) | (with_reducible refine b_alloc ?_ _) | (with_reducible refine b_drew ?_) | (with_reducible refine b_drewN ?_ _) | (with_reducible refine b_set ?_ ?_ _) | (with_reducible refine b_trans ?_ (by assumption)) | (with_reducible refine b_only ?_ (by assumption) ?_) | omega | (focus (simp; done)) | (focus (simp; omega))))⟩
  · have h2 : bytesOk xs = false := by simpa using h1
    rw [takeOk_bytes h2]
    clear hl h1
    go_enter Try.func21, Try.ntmps21
    go_wp2_with (go_at_call 27; refine (l4Bytes_any _ _ _ _ _ hx hn).mono ?_; rintro e w' ⟨rfl, rfl⟩)
    go_ret2
    exact ⟨_, 0, _, rfl, rfl, own_empty w _ (Nat.le_refl _), Nat.le_refl _, by unfold maxLen; omega, (by repeat (first | (with_reducible exact b_refl _) | (with_reducible refine b_alloc ?_ _) | (with_reducible refine b_drew ?_) | (with_reducible refine b_drewN ?_ _) | (with_reducible refine b_set ?_ ?_ _) | (with_reducible refine b_trans ?_ (by assumption)) | (with_reducible refine b_only ?_ (by assumption) ?_) | omega | (focus (simp; done)) | (focus (simp; omega))))⟩
theorem array_at (b o c : Nat) (w : World) : (Instr.arrayAt 35 (.slice (some ⟨b, o, none⟩) 2 c)).run Try.prog w = .ok (.pointer (some ⟨b, o, none⟩)) w := by
  simp [Instr.arrayAt, run_underlying Try.underlying35]
theorem eq_two (a b c d : Int) (w : World) : (Op.equalIn 10000 35 (.agg #[.int .i64 a, .int .i64 b]) (.agg #[.int .i64 c, .int .i64 d])).run Try.prog w = .ok (a == c && b == d) w := by
  have u3 := Try.underlying3
  have a3 := Try.isAgg3
  have z3 := Try.sizeOf3
  rw [show (10000 : Nat) = 9999 + 1 from rfl, Op.equalIn]
  simp only [Sem.run_bind, run_underlying Try.underlying35, Result.andThen_ok]
  simp only [Std.Legacy.Range.forIn_eq_forIn_range', Std.Legacy.Range.size, Nat.sub_zero, Nat.add_sub_cancel, Nat.div_one, List.range'_succ, List.range'_zero, List.forIn_cons, List.forIn_nil]
  go_simp
  by_cases h1 : a = c <;> by_cases h2 : b = d <;> simp [h1, h2]
set_option maxHeartbeats 2000000 in
theorem impl_SumTake (A : Option Addr) (n c : Nat) (xs : List Int) (w : World) (hx : Ints w A n xs) (hn : n ≤ 1099511627776) (hnc : n ≤ c) (hcm : c ≤ maxLen) :
    Calls Try.prog 22 #[.slice A n c] w (Gives (if takeOk xs = true then xs.take (xs.length - 2) else []) (takeOk xs) w) := by
  have hl := hx.len
  unfold maxLen at hcm
  by_cases h1 : bytesOk xs = true
  · by_cases h2 : n < 2
    · rw [takeOk_len (by omega)]
      clear hl
      have h3 : (n : Int) < 2 := by omega
      go_enter Try.func22, Try.ntmps22
      go_wp2_with (go_at_call 29; refine (allBytes_any _ _ _ _ _ hx hn).mono ?_; rintro e w' ⟨rfl, rfl⟩)
      go_ret2
      exact gives_nil _ (by repeat (first | (with_reducible exact b_refl _) | (with_reducible refine b_alloc ?_ _) | (with_reducible refine b_drew ?_) | (with_reducible refine b_drewN ?_ _) | (with_reducible refine b_set ?_ ?_ _) | (with_reducible refine b_trans ?_ (by assumption)) | (with_reducible refine b_only ?_ (by assumption) ?_) | omega | (focus (simp; done)) | (focus (simp; omega))))
    · by_cases h20 : 20 < n
      · rw [takeOk_len (by omega)]
        clear hl
        have h3 : ¬ (n : Int) < 2 := by omega
        have h4 : 20 < (n : Int) := by omega
        go_enter Try.func22, Try.ntmps22
        go_wp2_with (go_at_call 29; refine (allBytes_any _ _ _ _ _ hx hn).mono ?_; rintro e w' ⟨rfl, rfl⟩)
        go_ret2
        exact gives_nil _ (by repeat (first | (with_reducible exact b_refl _) | (with_reducible refine b_alloc ?_ _) | (with_reducible refine b_drew ?_) | (with_reducible refine b_drewN ?_ _) | (with_reducible refine b_set ?_ ?_ _) | (with_reducible refine b_trans ?_ (by assumption)) | (with_reducible refine b_only ?_ (by assumption) ?_) | omega | (focus (simp; done)) | (focus (simp; omega))))
      · obtain ⟨m, rfl⟩ : ∃ m, n = m + 2 := ⟨n - 2, by omega⟩
        obtain ⟨y, z, hy, hz, hd⟩ := last_two hl
        have HT := Lib.hid (takeOk_eq hl h1 (by omega) hd)
        obtain ⟨b, o, y', rfl, hb, ey, cy⟩ := hx.at_ (k := m) (by omega)
        rw [hy] at ey
        injection ey with ey
        subst ey
        obtain ⟨b', o', z', eA, _, ez, cz⟩ := hx.at_ (k := m + 1) (by omega)
        injection eA with eA
        injection eA with e1 e2
        subst e1; subst e2
        rw [hz] at ez
        injection ez with ez
        subst ez
        have hx0 := hx.take (k := m) (by omega)
        have hB0 := bytesOk_take h1 m
        have HL := Lib.hid hl
        have hm3 : ¬ ((m + 2 : Nat) : Int) < 2 := by omega
        have hm4 : ¬ 20 < ((m + 2 : Nat) : Int) := by omega
        have hm5 : ((m + 2 : Nat) : Int) - 2 = m := by omega
        rw [show xs.length - 2 = m from by omega]
        have ho0 := hx.at_ (k := m) (by omega)
        clear hl hy hz hd ho0
        have i1 : (0 : Int) ≤ (m : Int) := by omega
        have i2 : (m : Int) ≤ (c : Int) := by omega
        have i3 : (m : Int) ≤ (m : Int) + 2 := by omega
        have i4 : (m : Int) + 2 ≤ (c : Int) := by omega
        have i5 : ¬ c = m := by omega
        have i6 : ¬ m = c := by omega
        have i7 := array_at
        have i8 := eq_two
        have cz2 : w.cell? ⟨b, o + m + 1, none⟩ = some (.int .i64 z) := cz
        clear cz
        have cz := cz2
        clear cz2
        by_cases q1 : y = (sums (xs.take m)).1
        · by_cases q2 : z = (sums (xs.take m)).2
          · have ht : takeOk xs = true := by rw [HT.out, q1, q2]; simp
            rw [ht, if_pos rfl]
            rw [q1] at cy
            rw [q2] at cz
            clear q1 q2 ht
            go_enter Try.func22, Try.ntmps22
            go_wp2_with (go_at_call 29; refine (allBytes_any _ _ _ _ _ hx hn).mono ?_; rintro e w' ⟨rfl, rfl⟩)
            first | (go_region_held3 (fun w' => w'.cell? ⟨b, o + m, none⟩ = some (.int .i64 ((sums (xs.take m)).1)) ∧ w'.cell? ⟨b, o + m + 1, none⟩ = some (.int .i64 ((sums (xs.take m)).2))) (first | (go_simp; done) | (go_keep; done)) (first | (go_at_call 30; go_must ((with_reducible refine (sumsOf_any _ _ _ _ _ (Ints.lift hx0 (by repeat (first | (with_reducible exact hx0) | (with_reducible refine Ints.drew ?_) | (with_reducible refine Ints.drewN ?_ _) | (with_reducible refine Ints.alloc ?_ _) | (with_reducible refine Ints.below ?_ (by assumption))))) (by omega) hB0).mono ?_); rintro e w1 ⟨rfl, hb1⟩; have hz1 := hb1.size; (try simp at hz1); have dy := (hb1.cell (p := ⟨b, o + m, none⟩) (by simp; omega)).trans cy; have dz := (hb1.cell (p := ⟨b, o + m + 1, none⟩) (by simp; omega)).trans cz)))) | fail
            all_goals
              have hx1 : Ints w1 (some ⟨b, o, none⟩) m (xs.take m) := (Ints.lift hx0 (by repeat (first | (with_reducible exact hx0) | (with_reducible refine Ints.drew ?_) | (with_reducible refine Ints.drewN ?_ _) | (with_reducible refine Ints.alloc ?_ _) | (with_reducible refine Ints.below ?_ (by assumption)))))
              go_wp2_with (first | (at_builtin; refine at_app (.const (.slice none 0 0)) (.tmp 33) rfl ?_; go_must (refine wpList_app (own_nil _ w.heap.size) ((Ints.lift hx1 (by repeat (first | (with_reducible exact hx1) | (with_reducible refine Ints.drew ?_) | (with_reducible refine Ints.drewN ?_ _) | (with_reducible refine Ints.alloc ?_ _) | (with_reducible refine Ints.below ?_ (by assumption)))))) rfl (.const (.slice none 0 0)) (.tmp 33) rfl rfl rfl (m) (by first | omega | (simp; done) | (simp; omega)) (by first | omega | (simp; done) | (simp; omega)) (by first | omega | (simp; done) | (simp; omega)) ?_; intro A2 c2 w2 own2 ho2 hat2 hc2 hd2; (try simp only [List.nil_append] at own2); have hz2 := ho2.size; (try simp at hz2))))
              go_ret2
              exact ⟨_, _, _, rfl, by have := HL.out; simp; omega, own_mono own2 (by omega), hc2, hd2, b_own (by repeat (first | (with_reducible exact b_refl _) | (with_reducible refine b_alloc ?_ _) | (with_reducible refine b_drew ?_) | (with_reducible refine b_drewN ?_ _) | (with_reducible refine b_set ?_ ?_ _) | (with_reducible refine b_trans ?_ (by assumption)) | (with_reducible refine b_only ?_ (by assumption) ?_) | omega | (focus (simp; done)) | (focus (simp; omega)))) ho2 (fun g hg => by simp [Value.ownBlock] at hg)⟩
          · have ht : takeOk xs = false := by rw [HT.out]; simp [q2]
            rw [ht]
            rw [q1] at cy
            have q3 : (z == (sums (xs.take m)).2) = false := by simpa using q2
            have q4 : ((sums (xs.take m)).2 == z) = false := by simpa using fun e => q2 e.symm
            clear q1 q2 ht
            go_enter Try.func22, Try.ntmps22
            go_wp2_with (go_at_call 29; refine (allBytes_any _ _ _ _ _ hx hn).mono ?_; rintro e w' ⟨rfl, rfl⟩)
            first | (go_region_held3 (fun w' => w'.cell? ⟨b, o + m, none⟩ = some (.int .i64 ((sums (xs.take m)).1)) ∧ w'.cell? ⟨b, o + m + 1, none⟩ = some (.int .i64 (z))) (first | (go_simp; done) | (go_keep; done)) (first | (go_at_call 30; go_must ((with_reducible refine (sumsOf_any _ _ _ _ _ (Ints.lift hx0 (by repeat (first | (with_reducible exact hx0) | (with_reducible refine Ints.drew ?_) | (with_reducible refine Ints.drewN ?_ _) | (with_reducible refine Ints.alloc ?_ _) | (with_reducible refine Ints.below ?_ (by assumption))))) (by omega) hB0).mono ?_); rintro e w1 ⟨rfl, hb1⟩; have hz1 := hb1.size; (try simp at hz1); have dy := (hb1.cell (p := ⟨b, o + m, none⟩) (by simp; omega)).trans cy; have dz := (hb1.cell (p := ⟨b, o + m + 1, none⟩) (by simp; omega)).trans cz)))) | fail
            all_goals go_wp2
            all_goals go_ret2
            all_goals exact gives_nil _ (by repeat (first | (with_reducible exact b_refl _) | (with_reducible refine b_alloc ?_ _) | (with_reducible refine b_drew ?_) | (with_reducible refine b_drewN ?_ _) | (with_reducible refine b_set ?_ ?_ _) | (with_reducible refine b_trans ?_ (by assumption)) | (with_reducible refine b_only ?_ (by assumption) ?_) | omega | (focus (simp; done)) | (focus (simp; omega))))
        · have ht : takeOk xs = false := by rw [HT.out]; simp [q1]
          rw [ht]
          have q3 : (y == (sums (xs.take m)).1) = false := by simpa using q1
          have q4 : ((sums (xs.take m)).1 == y) = false := by simpa using fun e => q1 e.symm
          clear q1 ht
          go_enter Try.func22, Try.ntmps22
          go_wp2_with (go_at_call 29; refine (allBytes_any _ _ _ _ _ hx hn).mono ?_; rintro e w' ⟨rfl, rfl⟩)
          first | (go_region_held3 (fun w' => w'.cell? ⟨b, o + m, none⟩ = some (.int .i64 (y)) ∧ w'.cell? ⟨b, o + m + 1, none⟩ = some (.int .i64 (z))) (first | (go_simp; done) | (go_keep; done)) (first | (go_at_call 30; go_must ((with_reducible refine (sumsOf_any _ _ _ _ _ (Ints.lift hx0 (by repeat (first | (with_reducible exact hx0) | (with_reducible refine Ints.drew ?_) | (with_reducible refine Ints.drewN ?_ _) | (with_reducible refine Ints.alloc ?_ _) | (with_reducible refine Ints.below ?_ (by assumption))))) (by omega) hB0).mono ?_); rintro e w1 ⟨rfl, hb1⟩; have hz1 := hb1.size; (try simp at hz1); have dy := (hb1.cell (p := ⟨b, o + m, none⟩) (by simp; omega)).trans cy; have dz := (hb1.cell (p := ⟨b, o + m + 1, none⟩) (by simp; omega)).trans cz)))) | fail
          all_goals go_wp2
          all_goals go_ret2
          all_goals exact gives_nil _ (by repeat (first | (with_reducible exact b_refl _) | (with_reducible refine b_alloc ?_ _) | (with_reducible refine b_drew ?_) | (with_reducible refine b_drewN ?_ _) | (with_reducible refine b_set ?_ ?_ _) | (with_reducible refine b_trans ?_ (by assumption)) | (with_reducible refine b_only ?_ (by assumption) ?_) | omega | (focus (simp; done)) | (focus (simp; omega))))
  · have h2 : bytesOk xs = false := by simpa using h1
    rw [takeOk_bytes h2]
    clear hl h1
    go_enter Try.func22, Try.ntmps22
    go_wp2_with (go_at_call 29; refine (allBytes_any _ _ _ _ _ hx hn).mono ?_; rintro e w' ⟨rfl, rfl⟩)
    all_goals go_ret2
    all_goals exact gives_nil _ (by repeat (first | (with_reducible exact b_refl _) | (with_reducible refine b_alloc ?_ _) | (with_reducible refine b_drew ?_) | (with_reducible refine b_drewN ?_ _) | (with_reducible refine b_set ?_ ?_ _) | (with_reducible refine b_trans ?_ (by assumption)) | (with_reducible refine b_only ?_ (by assumption) ?_) | omega | (focus (simp; done)) | (focus (simp; omega))))
theorem put_len (xs : List Int) : (if putOk xs = true then sumPut xs else []).length ≤ xs.length + 2 := by
  split <;> simp [sumPut]
theorem take_len (xs : List Int) : (if takeOk xs = true then xs.take (xs.length - 2) else []).length ≤ xs.length + 2 := by
  split <;> simp
  omega
end Go.Proofs.Ytcanajbdmdhpeaa

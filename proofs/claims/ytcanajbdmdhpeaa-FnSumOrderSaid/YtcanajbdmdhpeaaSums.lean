/-
  SUMS OF BYTES: l32Sum, SumOf (the reference's), sumsOf, SumOf (the program's). Condition: at most 2^40 elements.
-/
import Derived.Test.YtcanajbdmdhpeaaBytes
set_option linter.unusedVariables false
set_option linter.unusedSimpArgs false
namespace Go.Proofs.Ytcanajbdmdhpeaa
open Go.ChangeShapes Go.WideShapes Go.ChangeAt Go.RowKit

def sumStep (s : Int × Int) (x : Int) : Int × Int := ((s.1 + x) % 255, (s.2 + (s.1 + x) % 255) % 255)
def sums (xs : List Int) : Int × Int := xs.foldl sumStep (1, 0)
theorem sums_snoc (xs : List Int) (x : Int) : sums (xs ++ [x]) = sumStep (sums xs) x := by simp [sums]
theorem sums_take {xs : List Int} {k : Nat} {x : Int} (hx : xs[k]? = some x) : sums (xs.take (k + 1)) = sumStep (sums (xs.take k)) x := by
  rw [List.take_add_one, hx]
  exact sums_snoc _ _
theorem sumStep_bd (s : Int × Int) (x : Int) : 0 ≤ (sumStep s x).1 ∧ (sumStep s x).1 ≤ 254 ∧ 0 ≤ (sumStep s x).2 ∧ (sumStep s x).2 ≤ 254 := by
  unfold sumStep
  dsimp only
  omega
theorem foldl_bd (xs : List Int) : ∀ s : Int × Int, 0 ≤ s.1 ∧ s.1 ≤ 254 ∧ 0 ≤ s.2 ∧ s.2 ≤ 254 → 0 ≤ (xs.foldl sumStep s).1 ∧ (xs.foldl sumStep s).1 ≤ 254 ∧ 0 ≤ (xs.foldl sumStep s).2 ∧ (xs.foldl sumStep s).2 ≤ 254 := by
  induction xs with
  | nil => intro s h; exact h
  | cons x xs ih => intro s _; exact ih _ (sumStep_bd s x)
theorem sums_bd (xs : List Int) : 0 ≤ (sums xs).1 ∧ (sums xs).1 ≤ 254 ∧ 0 ≤ (sums xs).2 ∧ (sums xs).2 ≤ 254 := foldl_bd xs _ (by decide)
theorem ret_ii {a b c d : Int} (h : a = b) (k : c = d) : Ending.returned (.tuple #[.int .i64 a, .int .i64 c]) = Ending.returned (.tuple #[.int .i64 b, .int .i64 d]) := by rw [h, k]
set_option maxHeartbeats 1000000 in
theorem l32Sum_any (A : Option Addr) (n c : Nat) (xs : List Int) (w : World) (hx : Ints w A n xs) (hn : n ≤ 1099511627776) (hB : bytesOk xs = true) :
    Calls Try.prog 28 #[.slice A n c] w fun e w' => e = .returned (.tuple #[.int .i64 (sums xs).1, .int .i64 (sums xs).2]) ∧ w = w' := by
  have HX := Lib.hid hx.len
  have HB := Lib.hid hB
  clear hB
  go_enter Try.func28, Try.ntmps28
  go_wp2
  go_loop [4, 5, 6] (fun a b i => ∃ (k : Nat) (p q : Int), k ≤ n ∧ i = .int .i64 k ∧ a = .int .i64 p ∧ b = .int .i64 q ∧ Hid (sums (xs.take k) = (p, q))) (fun _ _ i => n - (intOf i).toNat)
  case atStart => exact ⟨0, 1, 0, Nat.zero_le _, rfl, rfl, rfl, rfl⟩
  case round =>
    obtain ⟨k, p, q, hk, rfl, rfl, rfl, HS⟩ := hrel
    have hbd := sums_bd (xs.take k)
    rw [HS.out] at hbd
    dsimp only at hbd
    by_cases hlt : k < n
    · obtain ⟨b, o, x, rfl, hb, ex, hc⟩ := hx.at_ hlt
      have hxb := bytesOk_at HB.out ex
      have ES := Lib.hid (sums_take ex)
      clear ex
      go_wp2
      go_round
      case rel => exact ⟨k + 1, _, _, by omega, by go_num, rfl, rfl, by have := ES.out; rw [HS.out] at this; exact this⟩
      case measure => simp [intOf]; omega
    · obtain rfl : k = n := by omega
      go_wp2
      go_ret2
      have h := HS.out
      rw [List.take_of_length_le (by have := HX.out; omega)] at h
      exact ⟨ret_ii (by rw [h]) (by rw [h]), rfl⟩
/-- The sums of a list of bytes that is not too long, else -1 twice. -/
def sumOf (xs : List Int) : Int × Int := if bytesOk xs = true ∧ xs.length ≤ 20 then sums xs else (-1, -1)
set_option maxHeartbeats 1000000 in
theorem spec_SumOf (A : Option Addr) (n c : Nat) (xs : List Int) (w : World) (hx : Ints w A n xs) (hn : n ≤ 1099511627776) :
    Calls Try.prog 13 #[.slice A n c] w fun e w' => e = .returned (.tuple #[.int .i64 (sumOf xs).1, .int .i64 (sumOf xs).2]) ∧ w = w' := by
  have hl := hx.len
  by_cases h : bytesOk xs = true ∧ xs.length ≤ 20
  · rw [sumOf, if_pos h]
    obtain ⟨h1, h2⟩ := h
    have h3 : ¬ 20 < (n : Int) := by omega
    clear hl
    go_enter Try.func13, Try.ntmps13
    go_wp2_with (first | (go_at_call 27; refine (l4Bytes_any _ _ _ _ _ hx hn).mono ?_; rintro e w' ⟨rfl, rfl⟩) | (go_at_call 28; refine (l32Sum_any _ _ _ _ _ hx hn h1).mono ?_; rintro e w' ⟨rfl, rfl⟩))
    go_ret2
    exact ⟨rfl, rfl⟩
  · rw [sumOf, if_neg h]
    by_cases h1 : bytesOk xs = true
    · have h3 : 20 < (n : Int) := by have : ¬ xs.length ≤ 20 := fun h2 => h ⟨h1, h2⟩; omega
      clear hl h
      go_enter Try.func13, Try.ntmps13
      go_wp2_with (go_at_call 27; refine (l4Bytes_any _ _ _ _ _ hx hn).mono ?_; rintro e w' ⟨rfl, rfl⟩)
      go_ret2
      exact ⟨rfl, rfl⟩
    · have h2 : bytesOk xs = false := by simpa using h1
      clear hl h h1
      go_enter Try.func13, Try.ntmps13
      go_wp2_with (go_at_call 27; refine (l4Bytes_any _ _ _ _ _ hx hn).mono ?_; rintro e w' ⟨rfl, rfl⟩)
      go_ret2
      exact ⟨rfl, rfl⟩
theorem sumStep_any (p q x : Int) (w : World) (hp : 0 ≤ p) (hp1 : p ≤ 254) (hq : 0 ≤ q) (hq1 : q ≤ 254) (hx : 0 ≤ x) (hx1 : x ≤ 255) :
    Calls Try.prog 37 #[.agg #[.int .i64 p, .int .i64 q], .int .i64 x] w fun e w' => e = .returned (.agg #[.int .i64 (sumStep (p, q) x).1, .int .i64 (sumStep (p, q) x).2]) ∧ Below w.heap.size w w' := by
  go_enter Try.func37, Try.ntmps37
  go_wp2
  exact bodyPost_ret (by simp [results, Try.results37, go_sem, sumStep, *]; repeat (first | exact rfl | refine And.intro ?_ ?_)) rfl ⟨rfl, (by repeat (first | (with_reducible exact b_refl _) | (with_reducible refine b_alloc ?_ _) | (with_reducible refine b_drew ?_) | (with_reducible refine b_drewN ?_ _) | (with_reducible refine b_set ?_ ?_ _) | (with_reducible refine b_trans ?_ (by assumption)) | (with_reducible refine b_only ?_ (by assumption) ?_) | omega | (focus (simp; done)) | (focus (simp; omega))))⟩
theorem Blk.to {w : World} {g : Nat} {t : TypeId} {cs cs' : Array Value} (h : Blk w g t cs) (e : cs = cs') : Blk w g t cs' := e ▸ h
set_option maxHeartbeats 1000000 in
theorem fold_any (A : Option Addr) (n c : Nat) (xs : List Int) (w : World) (hx : Ints w A n xs) (hn : n ≤ 1099511627776) (hB : bytesOk xs = true) :
    Calls Try.prog 36 #[.slice A n c, .agg #[.int .i64 1, .int .i64 0], .func (.func 37) #[] #[]] w fun e w' => e = .returned (.agg #[.int .i64 (sums xs).1, .int .i64 (sums xs).2]) ∧ Below w.heap.size w w' := by
  have HX := Lib.hid hx.len
  have HB := Lib.hid hB
  clear hB
  go_enter Try.func36, Try.ntmps36
  go_wp2
  have hT : Blk (((w.alloc (.cells #[.int .i64 1, .int .i64 0] 35)).alloc (.cells #[.int .i64 0, .int .i64 0] 35)).alloc (.cells #[.int .i64 1, .int .i64 0] 35)) (w.heap.size + 1 + 1) 35 #[.int .i64 1, .int .i64 0] := by
    have h := Blk.new ((w.alloc (.cells #[.int .i64 1, .int .i64 0] 35)).alloc (.cells #[.int .i64 0, .int .i64 0] 35)) 35 #[.int .i64 1, .int .i64 0]
    rwa [World.size_alloc, World.size_alloc] at h
  have hR : Blk (((w.alloc (.cells #[.int .i64 1, .int .i64 0] 35)).alloc (.cells #[.int .i64 0, .int .i64 0] 35)).alloc (.cells #[.int .i64 1, .int .i64 0] 35)) (w.heap.size + 1) 35 #[.int .i64 0, .int .i64 0] := by
    have h := (Blk.new (w.alloc (.cells #[.int .i64 1, .int .i64 0] 35)) 35 #[.int .i64 0, .int .i64 0]).alloc (.cells #[.int .i64 1, .int .i64 0] 35)
    rwa [World.size_alloc] at h
  go_loopw [13] (fun i wr => ∃ (k : Nat) (p q : Int), k ≤ n ∧ i = .int .i64 k ∧ Hid (sums (xs.take k) = (p, q)) ∧ Blk wr (w.heap.size + 1 + 1) 35 #[.int .i64 p, .int .i64 q] ∧ Blk wr (w.heap.size + 1) 35 #[.int .i64 0, .int .i64 0] ∧ Below w.heap.size w wr) (fun i _ => n - (intOf i).toNat)
  case atStart => exact ⟨0, 1, 0, Nat.zero_le _, rfl, rfl, hT, hR, (by repeat (first | (with_reducible exact b_refl _) | (with_reducible refine b_alloc ?_ _) | (with_reducible refine b_drew ?_) | (with_reducible refine b_drewN ?_ _) | (with_reducible refine b_set ?_ ?_ _) | (with_reducible refine b_trans ?_ (by assumption)) | (with_reducible refine b_only ?_ (by assumption) ?_) | omega | (focus (simp; done)) | (focus (simp; omega))))⟩
  case round =>
    clear hT hR
    obtain ⟨k, p, q, hk, rfl, HS, hT, hR, hbr⟩ := hrel
    have hbd := sums_bd (xs.take k)
    rw [HS.out] at hbd
    dsimp only at hbd
    have hTl := hT.lt
    have hRl := hR.lt
    have hT0 := hT.cell 0
    have hT1 := hT.cell 1
    have hTf := hT.frozen 0
    simp at hT0 hT1
    by_cases hlt : k < n
    · obtain ⟨b, o, x, rfl, hb, ex, hc0⟩ := hx.at_ hlt
      have hc := (hbr.cell (p := ⟨b, o + k, none⟩) hb).trans hc0
      have hxb := bytesOk_at HB.out ex
      have ES := Lib.hid (sums_take ex)
      clear ex hc0
      go_wp2_with (go_at_call 37; go_must ((with_reducible refine (sumStep_any p q x _ (by omega) (by omega) (by omega) (by omega) (by omega) (by omega)).mono ?_); rintro e w1 ⟨rfl, hb1⟩; have hz1 := hb1.size; (try simp at hz1); have T1 := Blk.lift hT hb1 (by repeat (first | (with_reducible exact hT) | (with_reducible refine Blk.drew ?_) | (with_reducible refine Blk.drewN ?_ _) | (with_reducible refine Blk.alloc ?_ _) | (with_reducible refine Blk.far ?_ ?_ _) | omega | (focus (simp; done)) | (focus (simp; omega)))); have T1l := T1.lt; have T1c0 := T1.cell 0; have T1f0 := T1.frozen 0; have T1c1 := T1.cell 1; have T1f1 := T1.frozen 1; (try simp at T1c0 T1c1); have R1 := Blk.lift hR hb1 (by repeat (first | (with_reducible exact hR) | (with_reducible refine Blk.drew ?_) | (with_reducible refine Blk.drewN ?_ _) | (with_reducible refine Blk.alloc ?_ _) | (with_reducible refine Blk.far ?_ ?_ _) | omega | (focus (simp; done)) | (focus (simp; omega)))); have R1l := R1.lt))
      have hbs := b_trans hbr hb1
      go_roundw
      case rel => exact ⟨k + 1, _, _, by omega, by go_num, by have := ES.out; rw [HS.out] at this; exact this, ((T1.set_ 0 _).set_ 1 _).to (by simp [sumStep]), (R1.far (by simp) _).far (by simp) _, (by repeat (first | (with_reducible exact b_refl _) | (with_reducible refine b_alloc ?_ _) | (with_reducible refine b_drew ?_) | (with_reducible refine b_drewN ?_ _) | (with_reducible refine b_set ?_ ?_ _) | (with_reducible refine b_trans ?_ (by assumption)) | (with_reducible refine b_only ?_ (by assumption) ?_) | omega | (focus (simp; done)) | (focus (simp; omega))))⟩
      case measure => simp [intOf]; omega
    · obtain rfl : k = n := by omega
      have hR0 := hR.cell 0
      have hR1 := hR.cell 1
      have hRf := hR.frozen 0
      have hRf1 := hR.frozen 1
      simp at hR0 hR1
      have h := HS.out
      rw [List.take_of_length_le (by have := HX.out; omega)] at h
      have HE := Lib.hid h
      clear h
      go_wp2
      exact bodyPost_ret (v := .agg #[.int .i64 p, .int .i64 q]) (by simp [results, Try.results36, go_sem, *]; repeat (first | exact rfl | refine And.intro ?_ ?_)) rfl ⟨by rw [HE.out], (by repeat (first | (with_reducible exact b_refl _) | (with_reducible refine b_alloc ?_ _) | (with_reducible refine b_drew ?_) | (with_reducible refine b_drewN ?_ _) | (with_reducible refine b_set ?_ ?_ _) | (with_reducible refine b_trans ?_ (by assumption)) | (with_reducible refine b_only ?_ (by assumption) ?_) | omega | (focus (simp; done)) | (focus (simp; omega))))⟩
set_option maxHeartbeats 1000000 in
theorem sumsOf_any (A : Option Addr) (n c : Nat) (xs : List Int) (w : World) (hx : Ints w A n xs) (hn : n ≤ 1099511627776) (hB : bytesOk xs = true) :
    Calls Try.prog 30 #[.slice A n c] w fun e w' => e = .returned (.agg #[.int .i64 (sums xs).1, .int .i64 (sums xs).2]) ∧ Below w.heap.size w w' := by
  go_enter Try.func30, Try.ntmps30
  go_wp2_with fail
  (with_reducible refine (fold_any _ _ _ xs _ (hx.alloc _) hn hB).mono ?_); rintro e w1 ⟨rfl, hb1⟩; have hz1 := hb1.size; (try simp at hz1); have F1 := (Blk.new _ _ _).below hb1 (by first | omega | (simp; done) | (simp; omega)); have F1l := F1.lt; have F1c0 := F1.cell 0; have F1f0 := F1.frozen 0; have F1c1 := F1.cell 1; have F1f1 := F1.frozen 1; (try simp at F1c0 F1c1)
  go_wp2
  exact bodyPost_ret (by simp [results, Try.results30, go_sem, *]; repeat (first | exact rfl | refine And.intro ?_ ?_)) rfl ⟨rfl, (by repeat (first | (with_reducible exact b_refl _) | (with_reducible refine b_alloc ?_ _) | (with_reducible refine b_drew ?_) | (with_reducible refine b_drewN ?_ _) | (with_reducible refine b_set ?_ ?_ _) | (with_reducible refine b_trans ?_ (by assumption)) | (with_reducible refine b_only ?_ (by assumption) ?_) | omega | (focus (simp; done)) | (focus (simp; omega))))⟩
set_option maxHeartbeats 1000000 in
theorem impl_SumOf (A : Option Addr) (n c : Nat) (xs : List Int) (w : World) (hx : Ints w A n xs) (hn : n ≤ 1099511627776) :
    Calls Try.prog 15 #[.slice A n c] w fun e w' => e = .returned (.tuple #[.int .i64 (sumOf xs).1, .int .i64 (sumOf xs).2]) ∧ Below w.heap.size w w' := by
  have hl := hx.len
  by_cases h : bytesOk xs = true ∧ xs.length ≤ 20
  · rw [sumOf, if_pos h]
    obtain ⟨h1, h2⟩ := h
    have h3 : ¬ 20 < (n : Int) := by omega
    clear hl
    go_enter Try.func15, Try.ntmps15
    go_wp2_with (first | (go_at_call 29; refine (allBytes_any _ _ _ _ _ hx hn).mono ?_; rintro e w' ⟨rfl, rfl⟩) | (go_at_call 30; go_must ((with_reducible refine (sumsOf_any _ _ _ _ _ hx hn h1).mono ?_); rintro e w1 ⟨rfl, hb1⟩; have hz1 := hb1.size; (try simp at hz1))))
    have hN := Blk.new w1 35 #[.int .i64 (sums xs).1, .int .i64 (sums xs).2]
    go_quiet (fail)
    go_wp2
    go_ret2
    exact ⟨rfl, (by repeat (first | (with_reducible exact b_refl _) | (with_reducible refine b_alloc ?_ _) | (with_reducible refine b_drew ?_) | (with_reducible refine b_drewN ?_ _) | (with_reducible refine b_set ?_ ?_ _) | (with_reducible refine b_trans ?_ (by assumption)) | (with_reducible refine b_only ?_ (by assumption) ?_) | omega | (focus (simp; done)) | (focus (simp; omega))))⟩
  · rw [sumOf, if_neg h]
    by_cases h1 : bytesOk xs = true
    · have h3 : 20 < (n : Int) := by have : ¬ xs.length ≤ 20 := fun h2 => h ⟨h1, h2⟩; omega
      clear hl h
      go_enter Try.func15, Try.ntmps15
      go_wp2_with (go_at_call 29; refine (allBytes_any _ _ _ _ _ hx hn).mono ?_; rintro e w' ⟨rfl, rfl⟩)
      go_ret2
      exact ⟨rfl, (by repeat (first | (with_reducible exact b_refl _) | (with_reducible refine b_alloc ?_ _) | (with_reducible refine b_drew ?_) | (with_reducible refine b_drewN ?_ _) | (with_reducible refine b_set ?_ ?_ _) | (with_reducible refine b_trans ?_ (by assumption)) | (with_reducible refine b_only ?_ (by assumption) ?_) | omega | (focus (simp; done)) | (focus (simp; omega))))⟩
    · have h2 : bytesOk xs = false := by simpa using h1
      clear hl h h1
      go_enter Try.func15, Try.ntmps15
      go_wp2_with (go_at_call 29; refine (allBytes_any _ _ _ _ _ hx hn).mono ?_; rintro e w' ⟨rfl, rfl⟩)
      all_goals go_ret2
      all_goals exact ⟨rfl, (by repeat (first | (with_reducible exact b_refl _) | (with_reducible refine b_alloc ?_ _) | (with_reducible refine b_drew ?_) | (with_reducible refine b_drewN ?_ _) | (with_reducible refine b_set ?_ ?_ _) | (with_reducible refine b_trans ?_ (by assumption)) | (with_reducible refine b_only ?_ (by assumption) ?_) | omega | (focus (simp; done)) | (focus (simp; omega))))⟩
end Go.Proofs.Ytcanajbdmdhpeaa

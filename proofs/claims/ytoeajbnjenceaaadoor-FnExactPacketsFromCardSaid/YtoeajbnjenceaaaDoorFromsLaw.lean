/-
  LAWS OF PACKETS THAT ARE READ: plain ones (what was read so far), and PacketsFrom's contracts put together. Condition: at most 2^20 elements.
-/
import Derived.Test.YtoeajbnjenceaaaDoorFroms
import Derived.Test.YtoeajbnjenceaaaDoorPacketsLaw
set_option linter.unusedVariables false
set_option linter.unusedSimpArgs false
namespace Go.Proofs.YtoeajbnjenceaaaDoor
open Go.ChangeShapes Go.WideShapes Go.ChangeAt Go.RowKit

theorem pstep_other (ps : List (List Int)) (b : Nat) (cur : List Int) {x : Int} (h : x ≠ 192) : pstep (ps, b, cur) x = (ps, b, cur ++ [x]) := by rw [pstep, if_neg h]
theorem fold_plain : ∀ (l : List Int) (ps : List (List Int)) (b : Nat) (cur : List Int), (∀ x ∈ l, x ≠ 192) → l.foldl pstep (ps, b, cur) = (ps, b, cur ++ l)
  | [], ps, b, cur, _ => by simp
  | x :: l, ps, b, cur, h => by
    rw [List.foldl_cons, pstep_other _ _ _ (h x (List.mem_cons_self ..)), fold_plain l _ _ _ (fun y hy => h y (List.mem_cons_of_mem _ hy)), List.append_assoc, List.singleton_append]
theorem pst_plain {l : List Int} (h : ∀ x ∈ l, x ≠ 192) : pst l = ([], 0, l) := by
  unfold pst
  rw [fold_plain l _ _ _ h, List.nil_append]
theorem pstep_shift (ps : List (List Int)) (b : Nat) (cur : List Int) (x : Int) : pstep (ps, b, cur) x = (ps ++ (pstep ([], 0, cur) x).1, b + (pstep ([], 0, cur) x).2.1, (pstep ([], 0, cur) x).2.2) := by
  unfold pstep
  split
  · simp only
    split <;> simp
  · simp
theorem fold_shift : ∀ (l : List Int) (ps : List (List Int)) (b : Nat) (cur : List Int), l.foldl pstep (ps, b, cur) = (ps ++ (l.foldl pstep ([], 0, cur)).1, b + (l.foldl pstep ([], 0, cur)).2.1, (l.foldl pstep ([], 0, cur)).2.2)
  | [], ps, b, cur => by simp
  | x :: l, ps, b, cur => by
    rw [List.foldl_cons, List.foldl_cons, pstep_shift]
    rcases hq : pstep ([], 0, cur) x with ⟨q, d, cur'⟩
    rw [fold_shift l (ps ++ q), fold_shift l q]
    simp [Nat.add_assoc]
/-- What stands of every state. -/
def PInv (pre : List Int) (s : List (List Int) × Nat × List Int) : Prop :=
  (∀ p ∈ s.1, 1 ≤ p.length ∧ p.length ≤ 20) ∧ (∀ x ∈ s.2.2, x ≠ 192) ∧ s.1.length + s.2.1 ≤ pre.count 192 ∧ ∃ q, pre = q ++ s.2.2 ∧ (q = [] ∨ ∃ r, q = r ++ [192])
theorem PInv.step {pre : List Int} {s : List (List Int) × Nat × List Int} (h : PInv pre s) (x : Int) : PInv (pre ++ [x]) (pstep s x) := by
  obtain ⟨ps, b, cur⟩ := s
  obtain ⟨h1, h2, h3, q, h4, h5⟩ := h
  simp only at h1 h2 h3 h4
  by_cases hx : x = 192
  · subst hx
    have hc : (pre ++ [192]).count 192 = pre.count 192 + 1 := by simp
    unfold pstep
    rw [if_pos rfl]
    simp only
    split
    · exact ⟨h1, fun x h => (by cases h), by rw [hc]; simp only; omega, pre ++ [192], by simp, .inr ⟨pre, rfl⟩⟩
    · exact ⟨h1, fun x h => (by cases h), by rw [hc]; simp only; omega, pre ++ [192], by simp, .inr ⟨pre, rfl⟩⟩
    · rename_i y r hu
      have hl := unpack_len hu
      refine ⟨fun p hp => ?_, fun x h => (by cases h), by rw [hc]; simp only [List.length_append, List.length_singleton]; omega, pre ++ [192], by simp, .inr ⟨pre, rfl⟩⟩
      rcases List.mem_append.1 hp with hp | hp
      · exact h1 p hp
      · simp at hp
        subst hp
        exact ⟨by simp, hl⟩
  · rw [pstep_other _ _ _ hx]
    refine ⟨h1, fun y hy => ?_, by simp only [List.count_append]; omega, q, by simp only; rw [h4, List.append_assoc], h5⟩
    rcases List.mem_append.1 hy with hy | hy
    · exact h2 y hy
    · simp at hy
      subst hy
      exact hx
theorem PInv.fold : ∀ (l pre : List Int) (s : List (List Int) × Nat × List Int), PInv pre s → PInv (pre ++ l) (l.foldl pstep s)
  | [], pre, s, h => by simpa using h
  | x :: l, pre, s, h => by
    have := PInv.fold l (pre ++ [x]) _ (h.step x)
    simpa using this
theorem pst_inv (xs : List Int) : PInv xs (pst xs) := by
  have := PInv.fold xs [] ([], 0, []) ⟨fun p h => (by cases h), fun x h => (by cases h), by simp, [], rfl, .inl rfl⟩
  rwa [List.nil_append] at this
theorem fok_parts {xs : List Int} (h : fok xs = true) : bytesOk xs = true ∧ xs.length ≤ 450 := by simpa [fok] using h
theorem fok_mk {xs : List Int} (h : bytesOk xs = true) (hl : xs.length ≤ 450) : fok xs = true := by simp [fok, h, hl]
theorem fout_yes {xs : List Int} (h : fok xs = true) : fout xs = (pst xs).1 := if_pos h
theorem frest_yes {xs : List Int} (h : fok xs = true) : frest xs = (pst xs).2.2 := if_pos h
theorem fbad_yes {xs : List Int} (h : fok xs = true) : fbad xs = ((pst xs).2.1 : Int) := if_pos h
theorem fout_no {xs : List Int} (h : fok xs = false) : fout xs = [] := if_neg (by simp [h])
theorem frest_no {xs : List Int} (h : fok xs = false) : frest xs = [] := if_neg (by simp [h])
theorem fbad_no {xs : List Int} (h : fok xs = false) : fbad xs = -1 := if_neg (by simp [h])
theorem fout_len (xs : List Int) : (fout xs).length ≤ 450 := by
  by_cases h : fok xs = true
  · rw [fout_yes h]
    have h1 := (pst_inv xs).2.2.1
    have h2 := (fok_parts h).2
    have h3 := List.count_le_length (a := (192 : Int)) (l := xs)
    omega
  · rw [fout_no (by simpa using h)]
    simp
theorem fout_each {xs p : List Int} (hp : p ∈ fout xs) : 1 ≤ p.length ∧ p.length ≤ 20 := by
  by_cases h : fok xs = true
  · rw [fout_yes h] at hp
    exact (pst_inv xs).1 p hp
  · rw [fout_no (by simpa using h)] at hp
    cases hp
theorem fout_few (xs : List Int) : Few (fout xs) := fun p hp => by have := (fout_each hp).2; omega
theorem fout_tot (xs : List Int) : tot (fout xs) ≤ 9450 := by
  have h1 := (fout_few xs).tot
  have h2 := fout_len xs
  omega
theorem frest_len (xs : List Int) : (frest xs).length ≤ 450 := by
  by_cases h : fok xs = true
  · rw [frest_yes h]
    obtain ⟨_, _, _, q, h1, _⟩ := pst_inv xs
    have h2 := congrArg List.length h1
    have h3 := (fok_parts h).2
    rw [List.length_append] at h2
    omega
  · rw [frest_no (by simpa using h)]
    simp
theorem fbad_range (xs : List Int) : -1 ≤ fbad xs ∧ fbad xs ≤ 450 := by
  by_cases h : fok xs = true
  · rw [fbad_yes h]
    have h1 := (pst_inv xs).2.2.1
    have h2 := (fok_parts h).2
    have h3 := List.count_le_length (a := (192 : Int)) (l := xs)
    omega
  · rw [fbad_no (by simpa using h)]
    omega
/-! ### What was packed is read -/
theorem unesc_esc : ∀ xs : List Int, unesc (escAll xs) = some xs
  | [] => by simp [escAll, unesc]
  | x :: xs => by
    have ih := unesc_esc xs
    have he : escAll (x :: xs) = esc x ++ escAll xs := by simp [escAll]
    rw [he]
    unfold esc
    by_cases h1 : x = 192
    · rw [if_pos h1]
      show unesc (219 :: 220 :: escAll xs) = _
      rw [unesc_220, ih, h1]
      rfl
    · rw [if_neg h1]
      by_cases h2 : x = 219
      · rw [if_pos h2]
        show unesc (219 :: 221 :: escAll xs) = _
        rw [unesc_221, ih, h2]
        rfl
      · rw [if_neg h2]
        show unesc (x :: escAll xs) = _
        rw [unesc_plain _ h2, ih]
        rfl
theorem unpack_esc {xs : List Int} (h : xs.length ≤ 20) : unpack (escAll xs) = some xs := by
  unfold unpack
  rw [unesc_esc]
  exact if_pos h
theorem fold_packed {xs : List Int} (h : packOk xs = true) (ps : List (List Int)) (b : Nat) : (packed xs).foldl pstep (ps, b, []) = (ps ++ [xs], b, []) := by
  obtain ⟨_, h1, h2⟩ := packOk_parts h
  unfold packed
  rw [List.foldl_append, fold_plain _ _ _ _ (escAll_end xs), List.nil_append, List.foldl_cons, List.foldl_nil]
  unfold pstep
  rw [if_pos rfl]
  simp only [unpack_esc h2]
  cases xs with
  | nil => simp at h1
  | cons x r => rfl
theorem fold_packedAll : ∀ (xss : List (List Int)) (ps : List (List Int)), xss.all packOk = true → (packedAll xss).foldl pstep (ps, 0, []) = (ps ++ xss, 0, [])
  | [], ps, _ => by simp [packedAll]
  | xs :: xss, ps, h => by
    simp only [List.all_cons, Bool.and_eq_true] at h
    have he : packedAll (xs :: xss) = packed xs ++ packedAll xss := by simp [packedAll]
    rw [he, List.foldl_append, fold_packed h.1, fold_packedAll xss _ h.2, List.append_assoc, List.singleton_append]
theorem pst_packed {xs : List Int} (h : packOk xs = true) : pst (packed xs) = ([xs], 0, []) := fold_packed h [] 0
theorem pst_packedAll {xss : List (List Int)} (h : xss.all packOk = true) : pst (packedAll xss) = (xss, 0, []) := fold_packedAll xss [] h
theorem bytesOk_esc {xs : List Int} (h : bytesOk xs = true) : bytesOk (packed xs) = true := by
  rw [bytesOk_iff] at h ⊢
  intro y hy
  rcases List.mem_append.1 hy with hy | hy
  · obtain ⟨x, hx, h1⟩ := List.mem_flatMap.1 hy
    have h2 := h x hx
    unfold esc at h1
    split at h1
    · simp at h1; omega
    · split at h1
      · simp at h1; omega
      · simp at h1; omega
  · simp at hy
    omega
theorem bytesOk_packedAll {xss : List (List Int)} (h : xss.all packOk = true) : bytesOk (packedAll xss) = true := by
  rw [bytesOk_iff]
  intro y hy
  obtain ⟨xs, hx, h1⟩ := List.mem_flatMap.1 hy
  exact bytesOk_iff.1 (bytesOk_esc (packOk_parts (List.all_eq_true.1 h xs hx)).1) y h1
theorem fok_packed {xs : List Int} (h : packOk xs = true) : fok (packed xs) = true := fok_mk (bytesOk_esc (packOk_parts h).1) (by have := packed_len h; omega)
theorem fok_packedAll {xss : List (List Int)} (h : packsOk xss = true) : fok (packedAll xss) = true := fok_mk (bytesOk_packedAll (packsOk_parts h).1) (by have := packedAll_len (packsOk_parts h).1; have := (packsOk_parts h).2; omega)
theorem Lists.one {w : World} {A : Option Addr} {n c : Nat} {xs : List Int} (hx : Ints w A n xs) (hc : n ≤ c) (hd : c ≤ maxLen) : Lists (w.alloc (.cells #[.slice A n c] 22)) (some ⟨w.heap.size, 0, none⟩) 1 [(A, n, c)] [xs] := by
  refine ⟨Reads.litS [(A, n, c)] (Blk.new _ _ _), rfl, fun k s ys h1 h2 => ?_⟩
  obtain rfl : k = 0 := by have := (List.getElem?_eq_some_iff.1 h1).1; simpa using this
  simp at h1 h2
  subst h1; subst h2
  exact ⟨hx.alloc _, hc, hd⟩
/-! ### PacketsFrom, whole -/
set_option maxHeartbeats 4000000 in
theorem spec_PacketsFrom (A : Option Addr) (n c : Nat) (xs : List Int) (w : World) (hx : Ints w A n xs) (hnc : n ≤ c) (hcm : c ≤ maxLen) (hn : n ≤ 1048576) :
    Calls Tryd.prog 10 #[.slice A n c] w (FGives (fout xs) (frest xs) (fbad xs) w) := by
  have HX := Lib.hid hx.len
  by_cases hok : fok xs = true
  · rw [fout_yes hok, frest_yes hok, fbad_yes hok]
    exact spec_PacketsFrom_ok A n c xs w hx hnc hcm (by have := (fok_parts hok).2; have := HX.out; omega) (fok_parts hok).1
  · have hf : fok xs = false := by simpa using hok
    rw [fout_no hf, frest_no hf, fbad_no hf]
    have fin : ∀ w0 : World, w0 = (w.alloc (.cells #[] 22)).alloc (.cells #[] 3) → FGives [] [] (-1) w (.returned (.tuple #[.slice (some ⟨w.heap.size, 0, none⟩) 0 0, .slice (some ⟨w.heap.size + 1, 0, none⟩) 0 0, .int .i64 (-1)])) w0 := by
      rintro w0 rfl
      have h1 := own_empty (w.alloc (.cells #[] 22)) w.heap.size (by simp)
      rw [World.size_alloc] at h1
      exact ⟨_, 0, 0, [], _, 0, 0, rfl, ⟨(ownS_empty w w.heap.size (Nat.le_refl _)).alloc _, Owns.nil _ _⟩, h1, ⟨w.heap.size, Nat.le_refl _, h1, fun k t g ht => (by simp at ht)⟩, b_alloc (b_alloc (b_refl w) _) _⟩
    have FIN := Lib.hid fin
    clear fin hok
    by_cases hb : bytesOk xs = true
    · have h450 : 450 < (n : Int) := by
        have := HX.out
        simp [fok, hb] at hf
        omega
      clear hf
      go_enter Tryd.func10, Tryd.ntmps10
      go_wp2_with (go_at_call 28; refine (l4Bytes_any _ _ _ _ _ (hx.alloc _) (by omega)).mono ?_; rintro e w' ⟨rfl, rfl⟩)
      go_ret3
      exact FIN.out _ rfl
    · have hb2 : bytesOk xs = false := by simpa using hb
      clear hb hf
      go_enter Tryd.func10, Tryd.ntmps10
      go_wp2_with (go_at_call 28; refine (l4Bytes_any _ _ _ _ _ (hx.alloc _) (by omega)).mono ?_; rintro e w' ⟨rfl, rfl⟩)
      go_ret3
      exact FIN.out _ rfl
set_option maxHeartbeats 4000000 in
theorem impl_PacketsFrom (A : Option Addr) (n c : Nat) (xs : List Int) (w : World) (hx : Ints w A n xs) (hnc : n ≤ c) (hcm : c ≤ maxLen) (hn : n ≤ 1048576) (hE : ErrT w) :
    Calls Tryd.prog 12 #[.slice A n c] w (FGives (fout xs) (frest xs) (fbad xs) w) := by
  have HX := Lib.hid hx.len
  by_cases hok : fok xs = true
  · rw [fout_yes hok, frest_yes hok, fbad_yes hok]
    exact impl_PacketsFrom_ok A n c xs w hx hnc hcm (by have := (fok_parts hok).2; have := HX.out; omega) (fok_parts hok).1 hE
  · have hf : fok xs = false := by simpa using hok
    rw [fout_no hf, frest_no hf, fbad_no hf]
    have fin : FGives [] [] (-1) w (.returned (.tuple #[.slice none 0 0, .slice none 0 0, .int .i64 (-1)])) w :=
      ⟨none, 0, 0, [], none, 0, 0, rfl, ⟨ownS_nil w _, Owns.nil _ _⟩, own_nil w _, ⟨w.heap.size, Nat.le_refl _, own_nil w _, fun k t g ht => (by simp at ht)⟩, b_refl w⟩
    have FIN := Lib.hid fin
    clear fin hok
    by_cases hn1 : n ≤ 450
    · have h450 : ¬ 450 < (n : Int) := by omega
      have hb2 : bytesOk xs = false := by
        have := HX.out
        have h2 : xs.length ≤ 450 := by omega
        simpa [fok, h2] using hf
      clear hf
      go_enter Tryd.func12, Tryd.ntmps12
      go_wp2_with (go_at_call 30; refine (allBytes_any _ _ _ _ _ hx (by omega)).mono ?_; rintro e w' ⟨rfl, rfl⟩)
      go_ret3
      exact FIN.out
    · have h450 : 450 < (n : Int) := by omega
      clear hf
      go_enter Tryd.func12, Tryd.ntmps12
      go_wp2
      go_ret3
      exact FIN.out
set_option maxHeartbeats 2000000 in
theorem samePackets_same (A B : Option Addr) (n c d : Nat) (ss ts : List Sl) (xss : List (List Int)) (w : World) (hx : Lists w A n ss xss) (hy : Lists w B n ts xss) (hn : n ≤ 1048576) (ht : tot xss ≤ 1048576) :
    Calls Tryd.prog 23 #[.slice A n c, .slice B n d] w fun e w' => e = .returned (.bool true) ∧ Below w.heap.size w w' := by
  go_enter Tryd.func23, Tryd.ntmps23
  go_wp2
  go_loopw [5] (fun i wr => ∃ k : Nat, k ≤ n ∧ i = .int .i64 k ∧ Below w.heap.size w wr) (fun i _ => n - (intOf i).toNat)
  case atStart => exact ⟨0, Nat.zero_le _, rfl, (by repeat (first | (with_reducible exact b_refl _) | (with_reducible refine b_alloc ?_ _) | (with_reducible refine b_drew ?_) | (with_reducible refine b_drewN ?_ _) | (with_reducible refine b_set ?_ ?_ _) | (with_reducible refine b_trans ?_ (by assumption)) | (with_reducible refine b_only ?_ (by assumption) ?_) | omega | (focus (simp; done)) | (focus (simp; omega))))⟩
  case round =>
    obtain ⟨k, hk, rfl, hbr⟩ := hrel
    by_cases hlt : k < n
    · obtain ⟨b, o, A1, m, c1, xs, rfl, hb, hs, ex, hc0, hi, hmc, hcm⟩ := hx.at_ hlt
      obtain ⟨b', o', B1, m', d1, ys, rfl, hb', hs', ey, hd0, hj, _, _⟩ := hy.at_ hlt
      rw [ex] at ey
      injection ey with ey
      subst ey
      have hmm : m = m' := hi.len.symm.trans hj.len
      subst hmm
      have hm : m ≤ 1048576 := by
        have h1 := len_le_tot ex
        have h2 := hi.len
        omega
      have hc := (hbr.cell (p := ⟨b, o + k, none⟩) hb).trans hc0
      have hd := (hbr.cell (p := ⟨b', o' + k, none⟩) hb').trans hd0
      have hi2 := hi.below hbr
      have hj2 := hj.below hbr
      have hsz := hbr.size
      have hki : (0 : Int) ≤ (k : Int) := by omega
      have hki2 : (k : Int) < (n : Int) := by omega
      clear ex hs hs' hc0 hd0 hi hj
      go_wp2_with fail
      first | (go_region_held3 (fun w' => w'.cell? ⟨b, o + k, none⟩ = some (.slice A1 m c1) ∧ w'.cell? ⟨b', o' + k, none⟩ = some (.slice B1 m d1)) (first | (go_simp; done) | (go_keep; done)) (first | (go_at_call 22; go_must ((with_reducible refine (sameInts_any A1 B1 m m c1 d1 xs xs _ (Ints.drew hi2) (Ints.drew hj2) (by omega) (by omega)).mono ?_); rintro e w1 ⟨rfl, hb1⟩; have hz1 := hb1.size; (try simp at hz1); have hc1 := (hb1.cell (p := ⟨b, o + k, none⟩) (by simp; omega)).trans hc; have hd1 := (hb1.cell (p := ⟨b', o' + k, none⟩) (by simp; omega)).trans hd)))) | fail
      go_wp2
      go_roundw
      case rel => exact ⟨k + 1, by omega, by go_num, (by repeat (first | (with_reducible exact b_refl _) | (with_reducible refine b_alloc ?_ _) | (with_reducible refine b_drew ?_) | (with_reducible refine b_drewN ?_ _) | (with_reducible refine b_set ?_ ?_ _) | (with_reducible refine b_trans ?_ (by assumption)) | (with_reducible refine b_only ?_ (by assumption) ?_) | omega | (focus (simp; done)) | (focus (simp; omega))))⟩
      case measure => simp [intOf]; omega
    · obtain rfl : k = n := by omega
      go_wp2
      go_ret
      exact ⟨rfl, hbr⟩
end Go.Proofs.YtoeajbnjenceaaaDoor

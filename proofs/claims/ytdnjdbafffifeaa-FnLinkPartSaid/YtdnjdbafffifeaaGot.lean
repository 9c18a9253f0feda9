/-
  BYTES THAT CAME (Got: two integers), in lists: l11Got, RecvValid (the reference's), gotValid, RecvValid (the program's). Condition: at most 2^40 elements.
-/
import Derived.Test.YtdnjdbafffifeaaBytes
set_option linter.unusedVariables false
set_option linter.unusedSimpArgs false
namespace Go.Proofs.Ytdnjdbafffifeaa
open Go.ChangeShapes Go.WideShapes Go.ChangeAt Go.RowKit

def gotCells (gs : List (Int × Int)) : List Value := gs.flatMap fun g => [.int .i64 g.1, .int .i64 g.2]
theorem gotCells_length (gs : List (Int × Int)) : (gotCells gs).length = gs.length * 2 := by
  induction gs with
  | nil => rfl
  | cons g gs ih => simp only [gotCells, List.flatMap_cons, List.length_append, List.length_cons] at ih ⊢; simp at ih ⊢; omega
theorem gotCells_at {gs : List (Int × Int)} {k : Nat} {g : Int × Int} (h : gs[k]? = some g) : (gotCells gs)[k * 2]? = some (.int .i64 g.1) ∧ (gotCells gs)[k * 2 + 1]? = some (.int .i64 g.2) := by
  induction gs generalizing k with
  | nil => simp at h
  | cons x gs ih =>
    cases k with
    | zero => simp at h; subst h; simp [gotCells]
    | succ k =>
      simp at h
      have := ih h
      have e1 : (k + 1) * 2 = k * 2 + 2 := by omega
      rw [e1]
      simp only [gotCells, List.flatMap_cons] at this ⊢
      exact this
def Gots (w : World) (A : Option Addr) (n : Nat) (gs : List (Int × Int)) : Prop := Reads w w.heap.size 2 A n (gotCells gs)
section
variable {w w' : World} {A : Option Addr} {n : Nat} {gs : List (Int × Int)}
theorem Gots.len (h : Gots w A n gs) : gs.length = n := by
  have := h.1
  rw [gotCells_length] at this
  omega
theorem Gots.nil : Gots w none 0 [] := Reads.none_
theorem Gots.none_ (A : Option Addr) : Gots w A 0 [] := ⟨by simp [gotCells], fun h => absurd h (by omega)⟩
theorem Gots.below (h : Gots w A n gs) (hb : Below w.heap.size w w') : Gots w' A n gs := (Reads.below h hb).more hb.size
theorem Gots.alloc (h : Gots w A n gs) (o : Obj) : Gots (w.alloc o) A n gs := h.below (b_alloc (b_refl _) _)
theorem Gots.drewN (h : Gots w A n gs) (k : Nat) : Gots (w.drewN k) A n gs := h
theorem Gots.drew (h : Gots w A n gs) : Gots w.drew A n gs := h
theorem Gots.lift {w0 w : World} (_h0 : Gots w0 A n gs) (h : Gots w A n gs) : Gots w A n gs := h
theorem Gots.at_ {k : Nat} (h : Gots w A n gs) (hk : k < n) : ∃ b o x y, A = some ⟨b, o, none⟩ ∧ b < w.heap.size ∧ gs[k]? = some (x, y) ∧ w.cell? ⟨b, o + k * 2, none⟩ = some (.int .i64 x) ∧ w.cell? ⟨b, o + k * 2 + 1, none⟩ = some (.int .i64 y) := by
  have hl := h.len
  have hg : gs[k]? = some (gs[k]'(by omega)) := List.getElem?_eq_getElem (by omega)
  obtain ⟨h1, h2⟩ := gotCells_at hg
  obtain ⟨⟨b, o, sp⟩, e, hb, hc⟩ := h.2 (by omega)
  have c1 := hc _ _ h1
  have c2 := hc _ _ h2
  have h0 : gs[0]? = some (gs[0]'(by omega)) := List.getElem?_eq_getElem (by omega)
  have hs : sp = none := by
    have := hc _ _ (gotCells_at h0).1
    simpa [Addr.add] using World.cell?_spot this
  subst hs
  rw [add_none] at c1 c2
  exact ⟨b, o, _, _, e, hb, hg, c1, c2⟩
end
theorem Gots.of_own {w : World} {base n c : Nat} {A : Option Addr} {gs : List (Int × Int)} (h : w.ownsRow base 64 2 (.slice A n c) n (gotCells gs)) : Gots w A n gs := Reads.of_own h
def gotOk (g : Int × Int) : Bool := in_ g.1 0 255 && in_ g.2 0 2
def gotsOk (gs : List (Int × Int)) : Bool := gs.all gotOk
theorem gotsOk_step {gs : List (Int × Int)} {k : Nat} {x : Int × Int} (h : gotsOk (gs.take k) = true) (hx : gs[k]? = some x) (hi : gotOk x = true) : gotsOk (gs.take (k + 1)) = true := by
  rw [List.take_add_one, hx]
  simp [gotsOk] at h ⊢
  exact ⟨h, hi⟩
theorem gotsOk_no {gs : List (Int × Int)} {k : Nat} {x : Int × Int} (hx : gs[k]? = some x) (hi : gotOk x = false) : gotsOk gs = false := by
  have hm := List.mem_of_getElem? hx
  rw [← Bool.not_eq_true]
  intro h
  have := List.all_eq_true.1 h x hm
  rw [hi] at this
  cases this
theorem l11Got_any (x y : Int) (w : World) : Calls Try.prog 82 #[.agg #[.int .i64 x, .int .i64 y]] w fun e w' => e = .returned (.bool (gotOk (x, y))) ∧ Below w.heap.size w w' := by
  go_enter Try.func82, Try.ntmps82
  go_wp2_with (go_at_call 40; refine (l6In_any _ _ _ _).mono ?_; rintro e w' ⟨rfl, rfl⟩)
  all_goals
    go_ret
    refine ⟨ret_bool ?_, (by repeat (first | (with_reducible exact b_refl _) | (with_reducible refine b_alloc ?_ _) | (with_reducible refine b_drew ?_) | (with_reducible refine b_drewN ?_ _) | (with_reducible refine b_set ?_ ?_ _) | (with_reducible refine b_trans ?_ (by assumption)) | (with_reducible refine b_only ?_ (by assumption) ?_) | omega | (focus (simp; done)) | (focus (simp; omega))))⟩
    simp_all [gotOk]
theorem gotValid_any (x y : Int) (w : World) : Calls Try.prog 94 #[.agg #[.int .i64 x, .int .i64 y]] w fun e w' => e = .returned (.bool (gotOk (x, y))) ∧ Below w.heap.size w w' := by
  go_enter Try.func94, Try.ntmps94
  go_wp2_with (go_at_call 81; refine (isByte_any _ _).mono ?_; rintro e w' ⟨rfl, rfl⟩)
  all_goals
    go_ret
    refine ⟨ret_bool ?_, (by repeat (first | (with_reducible exact b_refl _) | (with_reducible refine b_alloc ?_ _) | (with_reducible refine b_drew ?_) | (with_reducible refine b_drewN ?_ _) | (with_reducible refine b_set ?_ ?_ _) | (with_reducible refine b_trans ?_ (by assumption)) | (with_reducible refine b_only ?_ (by assumption) ?_) | omega | (focus (simp; done)) | (focus (simp; omega))))⟩
    simp_all [gotOk, in_]
    try omega
def recvOk (rm tr : Int) (gs : List (Int × Int)) (ag : Int) : Bool := gotsOk gs && in_ rm 1 16 && in_ tr 1 rm && decide ((gs.length : Int) ≤ rm) && in_ ag 0 99
set_option maxHeartbeats 2000000 in
theorem spec_RecvValid (rm tr : Int) (A : Option Addr) (n c : Nat) (lo : Bool) (ag : Int) (gs : List (Int × Int)) (w : World) (hx : Gots w A n gs) (hn : n ≤ 1099511627776) :
    Calls Try.prog 64 #[.agg #[.int .i64 rm, .int .i64 tr, .slice A n c, .bool lo, .int .i64 ag]] w fun e w' => e = .returned (.bool (recvOk rm tr gs ag)) ∧ Below w.heap.size w w' := by
  have HX := Lib.hid hx.len
  go_enter Try.func64, Try.ntmps64
  go_wp2
  go_loopw [3] (fun i wr => ∃ k : Nat, k ≤ n ∧ i = .int .i64 k ∧ Below w.heap.size w wr ∧ Blk wr w.heap.size 43 #[.int .i64 rm, .int .i64 tr, .slice A n c, .bool lo, .int .i64 ag] ∧ Hid (gotsOk (gs.take k) = true)) (fun i _ => n - (intOf i).toNat)
  case atStart => exact ⟨0, Nat.zero_le _, rfl, (by repeat (first | (with_reducible exact b_refl _) | (with_reducible refine b_alloc ?_ _) | (with_reducible refine b_drew ?_) | (with_reducible refine b_drewN ?_ _) | (with_reducible refine b_set ?_ ?_ _) | (with_reducible refine b_trans ?_ (by assumption)) | (with_reducible refine b_only ?_ (by assumption) ?_) | omega | (focus (simp; done)) | (focus (simp; omega)))), Blk.new _ _ _, rfl⟩
  case round =>
    obtain ⟨k, hk, rfl, hbr, hB, HG⟩ := hrel
    have hBl := hB.lt
    have b0 := hB.cell 0
    have b1 := hB.cell 1
    have b2 := hB.cell 2
    have b4 := hB.cell 4
    simp at b0 b1 b2 b4
    by_cases hlt : k < n
    · obtain ⟨b, o, x, y, rfl, hb, ex, hc0, hc1⟩ := hx.at_ hlt
      have c0 := (hbr.cell (p := ⟨b, o + k * 2, none⟩) hb).trans hc0
      have c1 := (hbr.cell (p := ⟨b, o + k * 2 + 1, none⟩) hb).trans hc1
      have EX := Lib.hid ex
      clear ex hc0 hc1
      by_cases hin : gotOk (x, y) = true
      · skip
        go_wp2_with fail
        (with_reducible refine (l11Got_any x y _).mono ?_); rintro e w1 ⟨rfl, hb1⟩; have hz1 := hb1.size; (try simp at hz1); have B1 := Blk.lift hB hb1 (by repeat (first | (with_reducible exact hB) | (with_reducible refine Blk.drew ?_) | (with_reducible refine Blk.drewN ?_ _) | (with_reducible refine Blk.alloc ?_ _) | (with_reducible refine Blk.far ?_ ?_ _) | omega | (focus (simp; done)) | (focus (simp; omega)))); have B1l := B1.lt
        go_wp2
        go_roundw
        case rel => exact ⟨k + 1, by omega, by go_num, b_trans hbr hb1, B1, gotsOk_step HG.out EX.out hin⟩
        case measure => simp [intOf]; omega
      · have hin2 : gotOk (x, y) = false := by simpa using hin
        go_wp2_with fail
        (with_reducible refine (l11Got_any x y _).mono ?_); rintro e w1 ⟨rfl, hb1⟩; have hz1 := hb1.size; (try simp at hz1); have B1 := Blk.lift hB hb1 (by repeat (first | (with_reducible exact hB) | (with_reducible refine Blk.drew ?_) | (with_reducible refine Blk.drewN ?_ _) | (with_reducible refine Blk.alloc ?_ _) | (with_reducible refine Blk.far ?_ ?_ _) | omega | (focus (simp; done)) | (focus (simp; omega)))); have B1l := B1.lt
        go_wp2
        go_ret
        exact ⟨ret_bool (by simp [recvOk, gotsOk_no EX.out hin2]), b_trans hbr hb1⟩
    · obtain rfl : k = n := by omega
      have h1 := HG.out
      rw [List.take_of_length_le (by have := HX.out; omega)] at h1
      have H1 := Lib.hid h1
      clear h1
      go_wp2_with (go_at_call 40; refine (l6In_any _ _ _ _).mono ?_; rintro e w' ⟨rfl, rfl⟩)
      all_goals
        go_ret
        refine ⟨ret_bool ?_, hbr⟩
        have h1 := H1.out
        have h2 := HX.out
        first | (simp_all [recvOk]; done) | (simp_all [recvOk]; omega) | (simp_all [recvOk]; intro h; omega)
set_option maxHeartbeats 2000000 in
theorem impl_RecvValid (rm tr : Int) (A : Option Addr) (n c : Nat) (lo : Bool) (ag : Int) (gs : List (Int × Int)) (w : World) (hx : Gots w A n gs) (hn : n ≤ 1099511627776) :
    Calls Try.prog 79 #[.agg #[.int .i64 rm, .int .i64 tr, .slice A n c, .bool lo, .int .i64 ag]] w fun e w' => e = .returned (.bool (recvOk rm tr gs ag)) ∧ Below w.heap.size w w' := by
  have HX := Lib.hid hx.len
  by_cases a0 : rm < 1
  · skip
    have hf : recvOk rm tr gs ag = false := by
      have := HX.out
      rw [← Bool.not_eq_true]
      simp only [recvOk, in_, Bool.and_eq_true, decide_eq_true_eq]
      omega
    rw [hf]
    clear hf
    go_enter Try.func79, Try.ntmps79
    go_wp2
    go_ret
    exact ⟨rfl, (by repeat (first | (with_reducible exact b_refl _) | (with_reducible refine b_alloc ?_ _) | (with_reducible refine b_drew ?_) | (with_reducible refine b_drewN ?_ _) | (with_reducible refine b_set ?_ ?_ _) | (with_reducible refine b_trans ?_ (by assumption)) | (with_reducible refine b_only ?_ (by assumption) ?_) | omega | (focus (simp; done)) | (focus (simp; omega))))⟩
  by_cases a1 : 16 < rm
  · skip
    have hf : recvOk rm tr gs ag = false := by
      have := HX.out
      rw [← Bool.not_eq_true]
      simp only [recvOk, in_, Bool.and_eq_true, decide_eq_true_eq]
      omega
    rw [hf]
    clear hf
    go_enter Try.func79, Try.ntmps79
    go_wp2
    go_ret
    exact ⟨rfl, (by repeat (first | (with_reducible exact b_refl _) | (with_reducible refine b_alloc ?_ _) | (with_reducible refine b_drew ?_) | (with_reducible refine b_drewN ?_ _) | (with_reducible refine b_set ?_ ?_ _) | (with_reducible refine b_trans ?_ (by assumption)) | (with_reducible refine b_only ?_ (by assumption) ?_) | omega | (focus (simp; done)) | (focus (simp; omega))))⟩
  by_cases a2 : tr < 1
  · skip
    have hf : recvOk rm tr gs ag = false := by
      have := HX.out
      rw [← Bool.not_eq_true]
      simp only [recvOk, in_, Bool.and_eq_true, decide_eq_true_eq]
      omega
    rw [hf]
    clear hf
    go_enter Try.func79, Try.ntmps79
    go_wp2
    go_ret
    exact ⟨rfl, (by repeat (first | (with_reducible exact b_refl _) | (with_reducible refine b_alloc ?_ _) | (with_reducible refine b_drew ?_) | (with_reducible refine b_drewN ?_ _) | (with_reducible refine b_set ?_ ?_ _) | (with_reducible refine b_trans ?_ (by assumption)) | (with_reducible refine b_only ?_ (by assumption) ?_) | omega | (focus (simp; done)) | (focus (simp; omega))))⟩
  by_cases a3 : rm < tr
  · skip
    have hf : recvOk rm tr gs ag = false := by
      have := HX.out
      rw [← Bool.not_eq_true]
      simp only [recvOk, in_, Bool.and_eq_true, decide_eq_true_eq]
      omega
    rw [hf]
    clear hf
    go_enter Try.func79, Try.ntmps79
    go_wp2
    go_ret
    exact ⟨rfl, (by repeat (first | (with_reducible exact b_refl _) | (with_reducible refine b_alloc ?_ _) | (with_reducible refine b_drew ?_) | (with_reducible refine b_drewN ?_ _) | (with_reducible refine b_set ?_ ?_ _) | (with_reducible refine b_trans ?_ (by assumption)) | (with_reducible refine b_only ?_ (by assumption) ?_) | omega | (focus (simp; done)) | (focus (simp; omega))))⟩
  by_cases a4 : rm < (n : Int)
  · skip
    have hf : recvOk rm tr gs ag = false := by
      have := HX.out
      rw [← Bool.not_eq_true]
      simp only [recvOk, in_, Bool.and_eq_true, decide_eq_true_eq]
      omega
    rw [hf]
    clear hf
    go_enter Try.func79, Try.ntmps79
    go_wp2
    go_ret
    exact ⟨rfl, (by repeat (first | (with_reducible exact b_refl _) | (with_reducible refine b_alloc ?_ _) | (with_reducible refine b_drew ?_) | (with_reducible refine b_drewN ?_ _) | (with_reducible refine b_set ?_ ?_ _) | (with_reducible refine b_trans ?_ (by assumption)) | (with_reducible refine b_only ?_ (by assumption) ?_) | omega | (focus (simp; done)) | (focus (simp; omega))))⟩
  by_cases a5 : ag < 0
  · skip
    have hf : recvOk rm tr gs ag = false := by
      have := HX.out
      rw [← Bool.not_eq_true]
      simp only [recvOk, in_, Bool.and_eq_true, decide_eq_true_eq]
      omega
    rw [hf]
    clear hf
    go_enter Try.func79, Try.ntmps79
    go_wp2
    go_ret
    exact ⟨rfl, (by repeat (first | (with_reducible exact b_refl _) | (with_reducible refine b_alloc ?_ _) | (with_reducible refine b_drew ?_) | (with_reducible refine b_drewN ?_ _) | (with_reducible refine b_set ?_ ?_ _) | (with_reducible refine b_trans ?_ (by assumption)) | (with_reducible refine b_only ?_ (by assumption) ?_) | omega | (focus (simp; done)) | (focus (simp; omega))))⟩
  by_cases a6 : 99 < ag
  · skip
    have hf : recvOk rm tr gs ag = false := by
      have := HX.out
      rw [← Bool.not_eq_true]
      simp only [recvOk, in_, Bool.and_eq_true, decide_eq_true_eq]
      omega
    rw [hf]
    clear hf
    go_enter Try.func79, Try.ntmps79
    go_wp2
    go_ret
    exact ⟨rfl, (by repeat (first | (with_reducible exact b_refl _) | (with_reducible refine b_alloc ?_ _) | (with_reducible refine b_drew ?_) | (with_reducible refine b_drewN ?_ _) | (with_reducible refine b_set ?_ ?_ _) | (with_reducible refine b_trans ?_ (by assumption)) | (with_reducible refine b_only ?_ (by assumption) ?_) | omega | (focus (simp; done)) | (focus (simp; omega))))⟩
  have hv : recvOk rm tr gs ag = gotsOk gs := by
    have h1 : in_ rm 1 16 = true := by simp [in_]; omega
    have h2 : in_ tr 1 rm = true := by simp [in_]; omega
    have h3 : in_ ag 0 99 = true := by simp [in_]; omega
    have h4 : decide ((gs.length : Int) ≤ rm) = true := by have := HX.out; simp; omega
    simp only [recvOk, h1, h2, h3, h4, Bool.and_true]
  rw [hv]
  clear hv
  go_enter Try.func79, Try.ntmps79
  go_wp2
  go_loopw [44] (fun i wr => ∃ k : Nat, k ≤ n ∧ i = .int .i64 k ∧ Below w.heap.size w wr ∧ Hid (gotsOk (gs.take k) = true)) (fun i _ => n - (intOf i).toNat)
  case atStart => exact ⟨0, Nat.zero_le _, rfl, (by repeat (first | (with_reducible exact b_refl _) | (with_reducible refine b_alloc ?_ _) | (with_reducible refine b_drew ?_) | (with_reducible refine b_drewN ?_ _) | (with_reducible refine b_set ?_ ?_ _) | (with_reducible refine b_trans ?_ (by assumption)) | (with_reducible refine b_only ?_ (by assumption) ?_) | omega | (focus (simp; done)) | (focus (simp; omega)))), rfl⟩
  case round =>
    obtain ⟨k, hk, rfl, hbr, HG⟩ := hrel
    have hsz := hbr.size
    by_cases hlt : k < n
    · obtain ⟨b, o, x, y, rfl, hb, ex, hc0, hc1⟩ := hx.at_ hlt
      have c0 := (hbr.cell (p := ⟨b, o + k * 2, none⟩) hb).trans hc0
      have c1 := (hbr.cell (p := ⟨b, o + k * 2 + 1, none⟩) hb).trans hc1
      have EX := Lib.hid ex
      clear ex hc0 hc1
      by_cases hin : gotOk (x, y) = true
      · skip
        go_wp2_with fail
        (with_reducible refine (gotValid_any x y _).mono ?_); rintro e w1 ⟨rfl, hb1⟩; have hz1 := hb1.size; (try simp at hz1)
        go_wp2
        go_roundw
        case rel => exact ⟨k + 1, by omega, by go_num, b_trans (b_alloc hbr _) hb1, gotsOk_step HG.out EX.out hin⟩
        case measure => simp [intOf]; omega
      · have hin2 : gotOk (x, y) = false := by simpa using hin
        go_wp2_with fail
        (with_reducible refine (gotValid_any x y _).mono ?_); rintro e w1 ⟨rfl, hb1⟩; have hz1 := hb1.size; (try simp at hz1)
        go_wp2
        go_ret
        exact ⟨ret_bool (gotsOk_no EX.out hin2).symm, b_trans (b_alloc hbr _) hb1⟩
    · obtain rfl : k = n := by omega
      have h1 := HG.out
      rw [List.take_of_length_le (by have := HX.out; omega)] at h1
      have H1 := Lib.hid h1
      clear h1
      go_wp2
      go_ret
      exact ⟨ret_bool H1.out.symm, hbr⟩
def sendOk (sr : Int) (xs : List Int) (sh sl : Int) : Bool := in_ sr 1 16 && decide ((xs.length : Int) ≤ sr) && bytesOk xs && (if sh = -1 then decide (sl = 0) else in_ sh 0 255 && in_ sl 1 3)
end Go.Proofs.Ytdnjdbafffifeaa

/-
  A PACKET OUT OF ITS BYTES: l31From (the reference's), packetFrom (the program's). Condition: at most 2^20 elements.
-/
import Derived.Test.YtoeajbnjenceaaaDoorPacket
set_option linter.unusedVariables false
set_option linter.unusedSimpArgs false
namespace Go.Proofs.YtoeajbnjenceaaaDoor
open Go.ChangeShapes Go.WideShapes Go.ChangeAt Go.RowKit

def unesc : List Int → Option (List Int)
  | [] => some []
  | x :: r => if x = 219 then (match r with
      | [] => none
      | y :: s => if y = 220 then (unesc s).map (192 :: ·) else if y = 221 then (unesc s).map (219 :: ·) else none)
    else (unesc r).map (x :: ·)
def unpack (xs : List Int) : Option (List Int) := match unesc xs with
  | some p => if p.length ≤ 20 then some p else none
  | none => none
theorem unesc_plain {x : Int} (r : List Int) (h : x ≠ 219) : unesc (x :: r) = (unesc r).map (x :: ·) := by cases r <;> simp [unesc, h]
theorem unesc_220 (r : List Int) : unesc (219 :: 220 :: r) = (unesc r).map (192 :: ·) := by rw [unesc, if_pos rfl]; simp
theorem unesc_221 (r : List Int) : unesc (219 :: 221 :: r) = (unesc r).map (219 :: ·) := by rw [unesc, if_pos rfl]; simp
theorem unesc_bad {y : Int} (r : List Int) (h1 : y ≠ 220) (h2 : y ≠ 221) : unesc (219 :: y :: r) = none := by rw [unesc, if_pos rfl]; simp [h1, h2]
theorem unesc_last : unesc [219] = none := by simp [unesc]
/-- As far as place k, which gave ys. -/
def Un (xs : List Int) (k : Nat) (ys : List Int) : Prop := unesc xs = (unesc (xs.drop k)).map (ys ++ ·)
theorem Un.zero (xs : List Int) : Un xs 0 [] := by simp [Un]
theorem drop_at {xs : List Int} {k : Nat} {x : Int} (h : xs[k]? = some x) : xs.drop k = x :: xs.drop (k + 1) := by
  obtain ⟨hk, e⟩ := List.getElem?_eq_some_iff.1 h
  rw [List.drop_eq_getElem_cons hk, e]
theorem map_map_snoc (o : Option (List Int)) (ys : List Int) (x : Int) : (o.map (x :: ·)).map (ys ++ ·) = o.map ((ys ++ [x]) ++ ·) := by cases o <;> simp
theorem Un.plain {xs ys : List Int} {k : Nat} {x : Int} (h : Un xs k ys) (hx : xs[k]? = some x) (hn : x ≠ 219) : Un xs (k + 1) (ys ++ [x]) := by
  unfold Un at h ⊢
  rw [h, drop_at hx, unesc_plain _ hn, map_map_snoc]
theorem Un.e220 {xs ys : List Int} {k : Nat} (h : Un xs k ys) (hx : xs[k]? = some 219) (hy : xs[k + 1]? = some 220) : Un xs (k + 2) (ys ++ [192]) := by
  unfold Un at h ⊢
  rw [h, drop_at hx, drop_at hy, unesc_220, map_map_snoc]
theorem Un.e221 {xs ys : List Int} {k : Nat} (h : Un xs k ys) (hx : xs[k]? = some 219) (hy : xs[k + 1]? = some 221) : Un xs (k + 2) (ys ++ [219]) := by
  unfold Un at h ⊢
  rw [h, drop_at hx, drop_at hy, unesc_221, map_map_snoc]
theorem Un.bad {xs ys : List Int} {k : Nat} {y : Int} (h : Un xs k ys) (hx : xs[k]? = some 219) (hy : xs[k + 1]? = some y) (h1 : y ≠ 220) (h2 : y ≠ 221) : unpack xs = none := by
  unfold Un at h
  unfold unpack
  rw [h, drop_at hx, drop_at hy, unesc_bad _ h1 h2]
  rfl
theorem Un.last {xs ys : List Int} {k : Nat} (h : Un xs k ys) (hx : xs[k]? = some 219) (hl : xs.length ≤ k + 1) : unpack xs = none := by
  unfold Un at h
  unfold unpack
  rw [h, drop_at hx, List.drop_eq_nil_of_le hl, unesc_last]
  rfl
theorem Un.done {xs ys : List Int} {k : Nat} (h : Un xs k ys) (hl : xs.length ≤ k) : unesc xs = some ys := by
  unfold Un at h
  rw [h, List.drop_eq_nil_of_le hl]
  simp [unesc]
theorem Un.yes {xs ys : List Int} {k : Nat} (h : Un xs k ys) (hl : xs.length ≤ k) (h20 : ys.length ≤ 20) : unpack xs = some ys := by
  unfold unpack
  rw [h.done hl]
  exact if_pos h20
theorem Un.no {xs ys : List Int} {k : Nat} (h : Un xs k ys) (hl : xs.length ≤ k) (h20 : 20 < ys.length) : unpack xs = none := by
  unfold unpack
  rw [h.done hl]
  exact if_neg (by omega)
theorem unpack_len {xs p : List Int} (h : unpack xs = some p) : p.length ≤ 20 := by
  unfold unpack at h
  split at h
  · split at h
    · injection h with h; subst h; assumption
    · cases h
  · cases h
/-- What l31From, packetFrom leave. -/
def UnGives (xs : List Int) (w : World) (e : Ending) (w' : World) : Prop := match unpack xs with
  | some p => Gives p true w e w'
  | none => ∃ v, e = .returned (.tuple #[v, .bool false]) ∧ Below w.heap.size w w'
def UnErr (xs : List Int) (w : World) (e : Ending) (w' : World) : Prop := match unpack xs with
  | some p => ∃ (A : Option Addr) (m c : Nat), e = .returned (.tuple #[.slice A m c, .nilIface]) ∧ m = p.length ∧ w'.ownsRow w.heap.size 3 1 (.slice A m c) m (p.map (Value.int .i64)) ∧ m ≤ c ∧ c ≤ maxLen ∧ Below w.heap.size w w'
  | none => ∃ g : Nat, e = .returned (.tuple #[.slice none 0 0, .iface 44 (.pointer (some ⟨g, 0, none⟩))]) ∧ Below w.heap.size w w'
theorem UnGives.some_ {xs p : List Int} {w w' : World} {e : Ending} (h : unpack xs = some p) (k : Gives p true w e w') : UnGives xs w e w' := by unfold UnGives; rw [h]; exact k
theorem UnGives.none_ {xs : List Int} {w w' : World} {e : Ending} (h : unpack xs = none) (k : ∃ v, e = .returned (.tuple #[v, .bool false]) ∧ Below w.heap.size w w') : UnGives xs w e w' := by unfold UnGives; rw [h]; exact k
theorem UnErr.some_ {xs p : List Int} {w w' : World} {e : Ending} (h : unpack xs = some p) (k : ∃ (A : Option Addr) (m c : Nat), e = .returned (.tuple #[.slice A m c, .nilIface]) ∧ m = p.length ∧ w'.ownsRow w.heap.size 3 1 (.slice A m c) m (p.map (Value.int .i64)) ∧ m ≤ c ∧ c ≤ maxLen ∧ Below w.heap.size w w') : UnErr xs w e w' := by unfold UnErr; rw [h]; exact k
theorem UnErr.none_ {xs : List Int} {w w' : World} {e : Ending} (h : unpack xs = none) (k : ∃ g : Nat, e = .returned (.tuple #[.slice none 0 0, .iface 44 (.pointer (some ⟨g, 0, none⟩))]) ∧ Below w.heap.size w w') : UnErr xs w e w' := by unfold UnErr; rw [h]; exact k
set_option maxHeartbeats 4000000 in
theorem packetFrom_any (A : Option Addr) (n c : Nat) (xs : List Int) (w : World) (hx : Ints w A n xs) (hn : n ≤ 1048576) :
    Calls Tryd.prog 31 #[.slice A n c] w (UnErr xs w) := by
  have HX := Lib.hid hx.len
  go_enter Tryd.func31, Tryd.ntmps31
  go_wp2
  go_loopw [4, 5] (fun v i wr => ∃ (k m : Nat) (ys : List Int), k ≤ n ∧ i = .int .i64 k ∧ m ≤ k ∧ wr.ownsRow w.heap.size 3 1 v m (ys.map (Value.int .i64)) ∧ Below w.heap.size w wr ∧ Hid (Un xs k ys)) (fun _ i _ => n - (intOf i).toNat)
  case atStart => exact ⟨0, 0, [], Nat.zero_le _, rfl, Nat.zero_le _, own_nil w w.heap.size, (by repeat (first | (with_reducible exact b_refl _) | (with_reducible refine b_alloc ?_ _) | (with_reducible refine b_drew ?_) | (with_reducible refine b_drewN ?_ _) | (with_reducible refine b_set ?_ ?_ _) | (with_reducible refine b_trans ?_ (by assumption)) | (with_reducible refine b_only ?_ (by assumption) ?_) | omega | (focus (simp; done)) | (focus (simp; omega)))), Un.zero xs⟩
  case round =>
    obtain ⟨k, m, ys, hk, rfl, hm, hown, hbr, HY⟩ := hrel
    have hsz := hbr.size
    by_cases hlt : k < n
    · obtain ⟨b, o, x, rfl, hb, ex, hc0⟩ := hx.at_ hlt
      have hc := (hbr.cell (p := ⟨b, o + k, none⟩) hb).trans hc0
      have EX := Lib.hid ex
      clear ex hc0
      by_cases h1 : x = 219
      · subst h1
        by_cases hlt2 : k + 1 < n
        · have hlt3 : (k : Int) + 1 < (n : Int) := by omega
          obtain ⟨b', o', y, hA', hb', ey, hc1⟩ := hx.at_ hlt2
          obtain ⟨rfl, rfl⟩ : b = b' ∧ o = o' := by
            injection hA' with hA'
            injection hA' with h1 h2
            exact ⟨h1, h2⟩
          clear hA' hb'
          have hd := (hbr.cell (p := ⟨b, o + (k + 1), none⟩) hb).trans hc1
          have EY := Lib.hid ey
          clear ey hc1
          by_cases h2 : y = 220
          · subst h2
            go_wp2_with (at_builtin; refine at_app (.tmp 49) (.tmp 51) rfl ?_; go_must (refine wpList_app ((own_lift hown (by repeat (first | (with_reducible exact hown) | (with_reducible refine World.ownsRow.drew ?_) | (with_reducible refine own_drewN ?_ _) | (with_reducible refine World.ownsRow.alloc ?_ _) | (with_reducible refine own_below ?_ (by assumption)))))) (Ints.lit [192] (Blk.new _ _ _)) rfl (.tmp 49) (.tmp 51) rfl rfl rfl (m + 1) (by first | omega | (simp; done) | (simp; omega)) (by first | omega | (simp; done) | (simp; omega)) (by first | omega | (simp; done) | (simp; omega)) ?_; intro A1 c1 w1 own1 ho1 hat1 hc1 hd1; (try simp only [List.nil_append] at own1); have hz1 := ho1.size; (try simp at hz1)))
            go_roundw
            case rel => exact ⟨k + 2, m + 1, _, by omega, by go_num, by omega, own1, (by repeat (first | (with_reducible exact b_refl _) | (with_reducible refine b_alloc ?_ _) | (with_reducible refine b_drew ?_) | (with_reducible refine b_drewN ?_ _) | (with_reducible refine b_set ?_ ?_ _) | (with_reducible refine b_trans ?_ (by assumption)) | (with_reducible refine b_only ?_ (by assumption) ?_) | (with_reducible refine b_own ?_ (by assumption) ?_) | omega | (focus (intro g hg; simp [Value.ownBlock] at hg; done)) | (focus (intro g hg; simp [Value.ownBlock] at hg; omega)) | (focus (refine fun g hg => Nat.le_trans ?_ (World.ownsRow.lt (by assumption) g hg).1; first | omega | (simp; done) | (simp; omega))) | (focus (simp; done)) | (focus (simp; omega)))), HY.out.e220 EX.out EY.out⟩
            case measure => simp [intOf]; omega
          · have e2 : (y == 220) = false := by simpa using h2
            by_cases h3 : y = 221
            · subst h3
              clear h2
              go_wp2_with (at_builtin; refine at_app (.tmp 49) (.tmp 51) rfl ?_; go_must (refine wpList_app ((own_lift hown (by repeat (first | (with_reducible exact hown) | (with_reducible refine World.ownsRow.drew ?_) | (with_reducible refine own_drewN ?_ _) | (with_reducible refine World.ownsRow.alloc ?_ _) | (with_reducible refine own_below ?_ (by assumption)))))) (Ints.lit [219] (Blk.new _ _ _)) rfl (.tmp 49) (.tmp 51) rfl rfl rfl (m + 1) (by first | omega | (simp; done) | (simp; omega)) (by first | omega | (simp; done) | (simp; omega)) (by first | omega | (simp; done) | (simp; omega)) ?_; intro A1 c1 w1 own1 ho1 hat1 hc1 hd1; (try simp only [List.nil_append] at own1); have hz1 := ho1.size; (try simp at hz1)))
              go_roundw
              case rel => exact ⟨k + 2, m + 1, _, by omega, by go_num, by omega, own1, (by repeat (first | (with_reducible exact b_refl _) | (with_reducible refine b_alloc ?_ _) | (with_reducible refine b_drew ?_) | (with_reducible refine b_drewN ?_ _) | (with_reducible refine b_set ?_ ?_ _) | (with_reducible refine b_trans ?_ (by assumption)) | (with_reducible refine b_only ?_ (by assumption) ?_) | (with_reducible refine b_own ?_ (by assumption) ?_) | omega | (focus (intro g hg; simp [Value.ownBlock] at hg; done)) | (focus (intro g hg; simp [Value.ownBlock] at hg; omega)) | (focus (refine fun g hg => Nat.le_trans ?_ (World.ownsRow.lt (by assumption) g hg).1; first | omega | (simp; done) | (simp; omega))) | (focus (simp; done)) | (focus (simp; omega)))), HY.out.e221 EX.out EY.out⟩
              case measure => simp [intOf]; omega
            · have e3 : (y == 221) = false := by simpa using h3
              have HU := Lib.hid (HY.out.bad EX.out EY.out h2 h3)
              clear h2 h3
              go_wp2
              go_ret2
              exact UnErr.none_ HU.out ⟨_, rfl, (by repeat (first | (with_reducible exact b_refl _) | (with_reducible refine b_alloc ?_ _) | (with_reducible refine b_drew ?_) | (with_reducible refine b_drewN ?_ _) | (with_reducible refine b_set ?_ ?_ _) | (with_reducible refine b_trans ?_ (by assumption)) | (with_reducible refine b_only ?_ (by assumption) ?_) | omega | (focus (simp; done)) | (focus (simp; omega))))⟩
        · have hlt3 : ¬ (k : Int) + 1 < (n : Int) := by omega
          have HU := Lib.hid (HY.out.last EX.out (by have := HX.out; omega))
          go_wp2
          go_ret2
          exact UnErr.none_ HU.out ⟨_, rfl, (by repeat (first | (with_reducible exact b_refl _) | (with_reducible refine b_alloc ?_ _) | (with_reducible refine b_drew ?_) | (with_reducible refine b_drewN ?_ _) | (with_reducible refine b_set ?_ ?_ _) | (with_reducible refine b_trans ?_ (by assumption)) | (with_reducible refine b_only ?_ (by assumption) ?_) | omega | (focus (simp; done)) | (focus (simp; omega))))⟩
      · have e1 : (x == 219) = false := by simpa using h1
        have HU := Lib.hid (HY.out.plain EX.out h1)
        clear h1
        go_wp2_with (at_builtin; refine at_app (.tmp 49) (.tmp 51) rfl ?_; go_must (refine wpList_app ((own_lift hown (by repeat (first | (with_reducible exact hown) | (with_reducible refine World.ownsRow.drew ?_) | (with_reducible refine own_drewN ?_ _) | (with_reducible refine World.ownsRow.alloc ?_ _) | (with_reducible refine own_below ?_ (by assumption)))))) (Ints.lit [x] (Blk.new _ _ _)) rfl (.tmp 49) (.tmp 51) rfl rfl rfl (m + 1) (by first | omega | (simp; done) | (simp; omega)) (by first | omega | (simp; done) | (simp; omega)) (by first | omega | (simp; done) | (simp; omega)) ?_; intro A1 c1 w1 own1 ho1 hat1 hc1 hd1; (try simp only [List.nil_append] at own1); have hz1 := ho1.size; (try simp at hz1)))
        go_roundw
        case rel => exact ⟨k + 1, m + 1, _, by omega, by go_num, by omega, own1, (by repeat (first | (with_reducible exact b_refl _) | (with_reducible refine b_alloc ?_ _) | (with_reducible refine b_drew ?_) | (with_reducible refine b_drewN ?_ _) | (with_reducible refine b_set ?_ ?_ _) | (with_reducible refine b_trans ?_ (by assumption)) | (with_reducible refine b_only ?_ (by assumption) ?_) | (with_reducible refine b_own ?_ (by assumption) ?_) | omega | (focus (intro g hg; simp [Value.ownBlock] at hg; done)) | (focus (intro g hg; simp [Value.ownBlock] at hg; omega)) | (focus (refine fun g hg => Nat.le_trans ?_ (World.ownsRow.lt (by assumption) g hg).1; first | omega | (simp; done) | (simp; omega))) | (focus (simp; done)) | (focus (simp; omega)))), HU.out⟩
        case measure => simp [intOf]; omega
    · obtain rfl : k = n := by omega
      obtain ⟨A1, c1, rfl, hc1, hd1⟩ := own_form hown
      have hml : Hid (m = ys.length) := by show _ = _; have := hown.1; simp at this; exact this.symm
      by_cases h20 : m ≤ 20
      · have h21 : ¬ 20 < (m : Int) := by omega
        go_wp2
        go_ret2
        exact UnErr.some_ (HY.out.yes (by have := HX.out; omega) (by have := hml.out; omega)) ⟨A1, m, c1, rfl, hml.out, hown, hc1, hd1, (by repeat (first | (with_reducible exact b_refl _) | (with_reducible refine b_alloc ?_ _) | (with_reducible refine b_drew ?_) | (with_reducible refine b_drewN ?_ _) | (with_reducible refine b_set ?_ ?_ _) | (with_reducible refine b_trans ?_ (by assumption)) | (with_reducible refine b_only ?_ (by assumption) ?_) | omega | (focus (simp; done)) | (focus (simp; omega))))⟩
      · have h21 : 20 < (m : Int) := by omega
        go_wp2
        go_ret2
        exact UnErr.none_ (HY.out.no (by have := HX.out; omega) (by have := hml.out; omega)) ⟨_, rfl, (by repeat (first | (with_reducible exact b_refl _) | (with_reducible refine b_alloc ?_ _) | (with_reducible refine b_drew ?_) | (with_reducible refine b_drewN ?_ _) | (with_reducible refine b_set ?_ ?_ _) | (with_reducible refine b_trans ?_ (by assumption)) | (with_reducible refine b_only ?_ (by assumption) ?_) | omega | (focus (simp; done)) | (focus (simp; omega))))⟩
set_option maxHeartbeats 4000000 in
set_option maxRecDepth 4000 in
theorem l31From_any (A : Option Addr) (n c : Nat) (xs : List Int) (w : World) (hx : Ints w A n xs) (hn : n ≤ 1048576) :
    Calls Tryd.prog 29 #[.slice A n c] w (UnGives xs w) := by
  have HX := Lib.hid hx.len
  go_enter Tryd.func29, Tryd.ntmps29
  go_wp2
  go_loopw [4, 5] (fun v i wr => ∃ (k m : Nat) (ys : List Int), k ≤ n ∧ i = .int .i64 k ∧ m ≤ k ∧ wr.ownsRow w.heap.size 3 1 v m (ys.map (Value.int .i64)) ∧ Below w.heap.size w wr ∧ Hid (Un xs k ys)) (fun _ i _ => n - (intOf i).toNat)
  case atStart => exact ⟨0, 0, [], Nat.zero_le _, rfl, Nat.zero_le _, own_empty w w.heap.size (Nat.le_refl _), (by repeat (first | (with_reducible exact b_refl _) | (with_reducible refine b_alloc ?_ _) | (with_reducible refine b_drew ?_) | (with_reducible refine b_drewN ?_ _) | (with_reducible refine b_set ?_ ?_ _) | (with_reducible refine b_trans ?_ (by assumption)) | (with_reducible refine b_only ?_ (by assumption) ?_) | omega | (focus (simp; done)) | (focus (simp; omega)))), Un.zero xs⟩
  case round =>
    obtain ⟨k, m, ys, hk, rfl, hm, hown, hbr, HY⟩ := hrel
    have hsz := hbr.size
    by_cases hlt : k < n
    · obtain ⟨b, o, x, rfl, hb, ex, hc0⟩ := hx.at_ hlt
      have hc := (hbr.cell (p := ⟨b, o + k, none⟩) hb).trans hc0
      have EX := Lib.hid ex
      clear ex hc0
      by_cases h1 : x = 219
      · subst h1
        by_cases hlt2 : k + 1 < n
        · have hlt3 : ¬ (k : Int) + 1 = (n : Int) := by omega
          have hlt4 : ((k : Int) + 1 == (n : Int)) = false := by simpa using hlt3
          obtain ⟨b', o', y, hA', hb', ey, hc1⟩ := hx.at_ hlt2
          obtain ⟨rfl, rfl⟩ : b = b' ∧ o = o' := by
            injection hA' with hA'
            injection hA' with h1 h2
            exact ⟨h1, h2⟩
          clear hA' hb' hlt3
          have hd := (hbr.cell (p := ⟨b, o + (k + 1), none⟩) hb).trans hc1
          have EY := Lib.hid ey
          clear ey hc1
          by_cases h2 : y = 220
          · subst h2
            go_wp2_with (at_builtin; refine at_app (.tmp 46) (.tmp 48) rfl ?_; go_must (refine wpList_app ((own_lift hown (by repeat (first | (with_reducible exact hown) | (with_reducible refine World.ownsRow.drew ?_) | (with_reducible refine own_drewN ?_ _) | (with_reducible refine World.ownsRow.alloc ?_ _) | (with_reducible refine own_below ?_ (by assumption)))))) (Ints.lit [192] (Blk.new _ _ _)) rfl (.tmp 46) (.tmp 48) rfl rfl rfl (m + 1) (by first | omega | (simp; done) | (simp; omega)) (by first | omega | (simp; done) | (simp; omega)) (by first | omega | (simp; done) | (simp; omega)) ?_; intro A1 c1 w1 own1 ho1 hat1 hc1 hd1; (try simp only [List.nil_append] at own1); have hz1 := ho1.size; (try simp at hz1)))
            go_roundw
            case rel => exact ⟨k + 2, m + 1, _, by omega, by go_num, by omega, own1, (by repeat (first | (with_reducible exact b_refl _) | (with_reducible refine b_alloc ?_ _) | (with_reducible refine b_drew ?_) | (with_reducible refine b_drewN ?_ _) | (with_reducible refine b_set ?_ ?_ _) | (with_reducible refine b_trans ?_ (by assumption)) | (with_reducible refine b_only ?_ (by assumption) ?_) | (with_reducible refine b_own ?_ (by assumption) ?_) | omega | (focus (intro g hg; simp [Value.ownBlock] at hg; done)) | (focus (intro g hg; simp [Value.ownBlock] at hg; omega)) | (focus (refine fun g hg => Nat.le_trans ?_ (World.ownsRow.lt (by assumption) g hg).1; first | omega | (simp; done) | (simp; omega))) | (focus (simp; done)) | (focus (simp; omega)))), HY.out.e220 EX.out EY.out⟩
            case measure => simp [intOf]; omega
          · have e2 : (y == 220) = false := by simpa using h2
            by_cases h3 : y = 221
            · subst h3
              clear h2
              go_wp2_with (at_builtin; refine at_app (.tmp 46) (.tmp 48) rfl ?_; go_must (refine wpList_app ((own_lift hown (by repeat (first | (with_reducible exact hown) | (with_reducible refine World.ownsRow.drew ?_) | (with_reducible refine own_drewN ?_ _) | (with_reducible refine World.ownsRow.alloc ?_ _) | (with_reducible refine own_below ?_ (by assumption)))))) (Ints.lit [219] (Blk.new _ _ _)) rfl (.tmp 46) (.tmp 48) rfl rfl rfl (m + 1) (by first | omega | (simp; done) | (simp; omega)) (by first | omega | (simp; done) | (simp; omega)) (by first | omega | (simp; done) | (simp; omega)) ?_; intro A1 c1 w1 own1 ho1 hat1 hc1 hd1; (try simp only [List.nil_append] at own1); have hz1 := ho1.size; (try simp at hz1)))
              go_roundw
              case rel => exact ⟨k + 2, m + 1, _, by omega, by go_num, by omega, own1, (by repeat (first | (with_reducible exact b_refl _) | (with_reducible refine b_alloc ?_ _) | (with_reducible refine b_drew ?_) | (with_reducible refine b_drewN ?_ _) | (with_reducible refine b_set ?_ ?_ _) | (with_reducible refine b_trans ?_ (by assumption)) | (with_reducible refine b_only ?_ (by assumption) ?_) | (with_reducible refine b_own ?_ (by assumption) ?_) | omega | (focus (intro g hg; simp [Value.ownBlock] at hg; done)) | (focus (intro g hg; simp [Value.ownBlock] at hg; omega)) | (focus (refine fun g hg => Nat.le_trans ?_ (World.ownsRow.lt (by assumption) g hg).1; first | omega | (simp; done) | (simp; omega))) | (focus (simp; done)) | (focus (simp; omega)))), HY.out.e221 EX.out EY.out⟩
              case measure => simp [intOf]; omega
            · have e3 : (y == 221) = false := by simpa using h3
              have HU := Lib.hid (HY.out.bad EX.out EY.out h2 h3)
              have e4 : (y != 220) = true := by simpa using h2
              have e5 : (y != 221) = true := by simpa using h3
              clear h2 h3
              go_wp2
              go_ret2
              exact UnGives.none_ HU.out ⟨_, rfl, (by repeat (first | (with_reducible exact b_refl _) | (with_reducible refine b_alloc ?_ _) | (with_reducible refine b_drew ?_) | (with_reducible refine b_drewN ?_ _) | (with_reducible refine b_set ?_ ?_ _) | (with_reducible refine b_trans ?_ (by assumption)) | (with_reducible refine b_only ?_ (by assumption) ?_) | omega | (focus (simp; done)) | (focus (simp; omega))))⟩
        · have hlt3 : (k : Int) + 1 = (n : Int) := by omega
          have hlt4 : ((k : Int) + 1 == (n : Int)) = true := by simpa using hlt3
          have HU := Lib.hid (HY.out.last EX.out (by have := HX.out; omega))
          clear hlt3
          go_wp2
          go_ret2
          exact UnGives.none_ HU.out ⟨_, rfl, (by repeat (first | (with_reducible exact b_refl _) | (with_reducible refine b_alloc ?_ _) | (with_reducible refine b_drew ?_) | (with_reducible refine b_drewN ?_ _) | (with_reducible refine b_set ?_ ?_ _) | (with_reducible refine b_trans ?_ (by assumption)) | (with_reducible refine b_only ?_ (by assumption) ?_) | omega | (focus (simp; done)) | (focus (simp; omega))))⟩
      · have e1 : (x == 219) = false := by simpa using h1
        have HU := Lib.hid (HY.out.plain EX.out h1)
        clear h1
        go_wp2_with (at_builtin; refine at_app (.tmp 46) (.tmp 48) rfl ?_; go_must (refine wpList_app ((own_lift hown (by repeat (first | (with_reducible exact hown) | (with_reducible refine World.ownsRow.drew ?_) | (with_reducible refine own_drewN ?_ _) | (with_reducible refine World.ownsRow.alloc ?_ _) | (with_reducible refine own_below ?_ (by assumption)))))) (Ints.lit [x] (Blk.new _ _ _)) rfl (.tmp 46) (.tmp 48) rfl rfl rfl (m + 1) (by first | omega | (simp; done) | (simp; omega)) (by first | omega | (simp; done) | (simp; omega)) (by first | omega | (simp; done) | (simp; omega)) ?_; intro A1 c1 w1 own1 ho1 hat1 hc1 hd1; (try simp only [List.nil_append] at own1); have hz1 := ho1.size; (try simp at hz1)))
        go_roundw
        case rel => exact ⟨k + 1, m + 1, _, by omega, by go_num, by omega, own1, (by repeat (first | (with_reducible exact b_refl _) | (with_reducible refine b_alloc ?_ _) | (with_reducible refine b_drew ?_) | (with_reducible refine b_drewN ?_ _) | (with_reducible refine b_set ?_ ?_ _) | (with_reducible refine b_trans ?_ (by assumption)) | (with_reducible refine b_only ?_ (by assumption) ?_) | (with_reducible refine b_own ?_ (by assumption) ?_) | omega | (focus (intro g hg; simp [Value.ownBlock] at hg; done)) | (focus (intro g hg; simp [Value.ownBlock] at hg; omega)) | (focus (refine fun g hg => Nat.le_trans ?_ (World.ownsRow.lt (by assumption) g hg).1; first | omega | (simp; done) | (simp; omega))) | (focus (simp; done)) | (focus (simp; omega)))), HU.out⟩
        case measure => simp [intOf]; omega
    · obtain rfl : k = n := by omega
      obtain ⟨A1, c1, rfl, hc1, hd1⟩ := own_form hown
      have hml : Hid (m = ys.length) := by show _ = _; have := hown.1; simp at this; exact this.symm
      by_cases h20 : m ≤ 20
      · have h21 : (m : Int) ≤ 20 := by omega
        go_wp2
        go_ret2
        exact UnGives.some_ (HY.out.yes (by have := HX.out; omega) (by have := hml.out; omega)) ⟨A1, m, c1, rfl, hml.out, hown, hc1, hd1, (by repeat (first | (with_reducible exact b_refl _) | (with_reducible refine b_alloc ?_ _) | (with_reducible refine b_drew ?_) | (with_reducible refine b_drewN ?_ _) | (with_reducible refine b_set ?_ ?_ _) | (with_reducible refine b_trans ?_ (by assumption)) | (with_reducible refine b_only ?_ (by assumption) ?_) | omega | (focus (simp; done)) | (focus (simp; omega))))⟩
      · have h21 : ¬ (m : Int) ≤ 20 := by omega
        go_wp2
        go_ret2
        exact UnGives.none_ (HY.out.no (by have := HX.out; omega) (by have := hml.out; omega)) ⟨.slice A1 m c1, (by simp [h21]), (by repeat (first | (with_reducible exact b_refl _) | (with_reducible refine b_alloc ?_ _) | (with_reducible refine b_drew ?_) | (with_reducible refine b_drewN ?_ _) | (with_reducible refine b_set ?_ ?_ _) | (with_reducible refine b_trans ?_ (by assumption)) | (with_reducible refine b_only ?_ (by assumption) ?_) | omega | (focus (simp; done)) | (focus (simp; omega))))⟩
end Go.Proofs.YtoeajbnjenceaaaDoor

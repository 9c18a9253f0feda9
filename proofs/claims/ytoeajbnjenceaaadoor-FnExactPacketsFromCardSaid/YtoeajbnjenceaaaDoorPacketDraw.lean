/-
  THE DRAW OF A PACKET: a list of at most 21 integers of the call's own.
-/
import Derived.Test.YtoeajbnjenceaaaDoorAppend
import Derived.Test.YtoeajbnjenceaaaDoorReadU
set_option linter.unusedVariables false
set_option linter.unusedSimpArgs false
namespace Go.Proofs.YtoeajbnjenceaaaDoor
open Go.ChangeShapes Go.WideShapes Go.ChangeAt Go.RowKit

/-- A list that was drawn: a row of the call's own, of at most 'most' integers. -/
def Drawn (most : Nat) (rb b : Nat) (w : World) (e : Ending) (w' : World) : Prop :=
  ∃ (A : Option Addr) (n c : Nat) (xs : List Int), e = .returned (.slice A n c) ∧ n ≤ most ∧ w'.ownsRow w.heap.size 3 1 (.slice A n c) n (xs.map (Value.int .i64)) ∧ n ≤ c ∧ c ≤ maxLen ∧ RdU w' rb b ∧ w.grownBy w' (some rb)
theorem nth_in {w : World} {g : Nat} {t : TypeId} {zs : List Int} {i : Int} (h : Blk w g t (zs.map (Value.int .i64)).toArray) (h0 : 0 ≤ i) (h1 : i < zs.length) : ∃ x : Int, w.cell? ⟨g, i.toNat, none⟩ = some (.int .i64 x) := (nth_of zs h h0 h1).elim fun x hx => ⟨x, hx.1⟩
set_option maxHeartbeats 4000000 in
theorem l92Packet_any (rb p : Nat) (w : World) (h : RdU w rb p) (hp : p ≤ 1000000) :
    Calls Tryd.prog 33 #[.pointer (some ⟨rb, 0, none⟩)] w (Drawn 21 rb (p + 200) w) := by
  have hlt := h.lt
  go_enter Tryd.func33, Tryd.ntmps33
  go_wp2_with fail
  (with_reducible refine (pick_U rb (p) 6 _ ?_ (by omega) (by omega)).mono ?_); (exact (by repeat (first | (with_reducible refine RdU.up (by assumption) (by omega)) | (with_reducible refine Rd.up (by assumption) (by omega)) | (with_reducible refine RdU.up (RdB.u (by assumption)) (by omega)) | (with_reducible refine RdU.drew ?_) | (with_reducible refine RdU.drewN ?_ _) | (with_reducible refine RdU.alloc ?_ _) | (with_reducible refine RdU.setCell ?_ ?_ _) | (with_reducible refine RdU.below ?_ (by assumption)) | omega | (focus (simp; done)) | (focus (simp; omega))))); rintro e w1 ⟨v1, rfl, hv1, hu1, hr1, ho1⟩; have hz1 := ho1.size; (try simp at hz1)
  go_wp2_with fail
  (with_reducible refine (pick_U rb (p + 1) 24 _ ?_ (by omega) (by omega)).mono ?_); (exact (by repeat (first | (with_reducible refine RdU.up (by assumption) (by omega)) | (with_reducible refine Rd.up (by assumption) (by omega)) | (with_reducible refine RdU.up (RdB.u (by assumption)) (by omega)) | (with_reducible refine RdU.drew ?_) | (with_reducible refine RdU.drewN ?_ _) | (with_reducible refine RdU.alloc ?_ _) | (with_reducible refine RdU.setCell ?_ ?_ _) | (with_reducible refine RdU.below ?_ (by assumption)) | omega | (focus (simp; done)) | (focus (simp; omega))))); rintro e w2 ⟨v2, rfl, hv2, hu2, hr2, ho2⟩; have hz2 := ho2.size; (try simp at hz2)
  have hN0 : 0 ≤ 1 + v1 := by omega
  have hN1 : 1 + v1 ≤ 21 := by omega
  have hown0 := own_only (own_only (own_empty w w.heap.size (Nat.le_refl _)) ho1 (by omega)) ho2 (by omega)
  have hg0 : w.grownBy w2 (some rb) := (by repeat (first | (with_reducible exact only_refl _ _) | (with_reducible refine only_drew ?_) | (with_reducible refine only_drewN ?_ _) | (with_reducible refine only_alloc ?_ _) | (with_reducible refine only_setCell ?_ (.inl rfl) _) | (with_reducible refine only_setCell ?_ (.inr ?_) _) | (with_reducible refine only_below ?_ (by assumption)) | (with_reducible refine only_trans ?_ (by assumption)) | omega | (focus (simp; done)) | (focus (simp; omega))))
  have HO := Lib.hid hown0
  have HG := Lib.hid hg0
  clear hown0 hg0
  generalize hz : (1 + v1 : Int) = z at *
  obtain ⟨N0, rfl⟩ := Int.eq_ofNat_of_zero_le hN0
  clear hz hN0
  by_cases h0 : v2 = 0
  case' pos =>
    subst h0
    go_wp2_with (go_at_call_of 39 (Value.int IntKind.i64 3); go_must ((with_reducible refine (pick_U rb (p + 2) 3 _ ?_ (by omega) (by omega)).mono ?_); (exact (by repeat (first | (with_reducible refine RdU.up (by assumption) (by omega)) | (with_reducible refine Rd.up (by assumption) (by omega)) | (with_reducible refine RdU.up (RdB.u (by assumption)) (by omega)) | (with_reducible refine RdU.drew ?_) | (with_reducible refine RdU.drewN ?_ _) | (with_reducible refine RdU.alloc ?_ _) | (with_reducible refine RdU.setCell ?_ ?_ _) | (with_reducible refine RdU.below ?_ (by assumption)) | omega | (focus (simp; done)) | (focus (simp; omega))))); rintro e w3 ⟨v3, rfl, hv3, hu3, hr3, ho3⟩; have hz3 := ho3.size; (try simp at hz3); obtain ⟨x, hx, hm⟩ := nth_of [0, 20, 21] ((Blk.new _ _ _).grown ho3 (by simp; omega)) hv3 hu3))
    have hx0 : 0 ≤ x ∧ x ≤ 21 := by simp at hm; omega
    obtain ⟨N, rfl⟩ := Int.eq_ofNat_of_zero_le hx0.1
    have hM : N ≤ 21 := by omega
    have HO3 := Lib.hid (own_only (World.ownsRow.alloc HO.out _) ho3 (by omega))
    have HG3 : Hid (w.grownBy w3 (some rb)) := only_trans (only_alloc HG.out _) ho3
    have hr9 : RdU w3 rb (p + 3) := hr3
    have hl9 : rb < w3.heap.size := hr3.lt
    have hl8 : w.heap.size < w3.heap.size := by omega
    clear hx0 hm hx HO HG hr2 hr1 hr3 ho1 ho2 ho3 hN1
    generalize w3 = wx at *
  case' neg =>
    have hz0 : (v2 == 0) = false := by simpa using h0
    generalize N0 = N at *
    have hM : N ≤ 21 := by omega
    have HO3 := HO
    have HG3 := HG
    have hr9 : RdU w2 rb (p + 3) := hr2.up (by omega)
    have hl9 : rb < w2.heap.size := hr2.lt
    have hl8 : w.heap.size < w2.heap.size := by omega
    go_wp2
    clear HO HG hr2 hr1 ho1 ho2 hN1 h0 hz0
    generalize w2 = wx at *
  all_goals
    go_loopw [3, 5] (fun v i wr => ∃ (k : Nat) (ys : List Int), k ≤ N ∧ i = .int .i64 k ∧ wr.ownsRow w.heap.size 3 1 v k (ys.map (Value.int .i64)) ∧ RdU wr rb (p + 3 + 3 * k) ∧ w.grownBy wr (some rb) ∧ w.heap.size < wr.heap.size) (fun _ i _ => N - (intOf i).toNat)
    case atStart => exact ⟨0, [], Nat.zero_le _, rfl, HO3.out, hr9.up (by omega), HG3.out, hl8⟩
    case round =>
      obtain ⟨k, ys, hk, rfl, hown, hr, hg, hl7⟩ := hrel
      clear HO3 HG3 hr9 hl9 hl8
      have hrl := hr.lt
      by_cases hlt : k < N
      · have tk5 : True := trivial; have tk6 : True := trivial
        go_wp2_with (first | (go_at_call_of 39 (Value.int IntKind.i64 256); have _t := tk5; clear _t; go_must (clear tk5; (with_reducible refine (pick_U rb (p + 3 + 3 * k) 256 _ ?_ (by omega) (by omega)).mono ?_); (exact (by repeat (first | (with_reducible refine RdU.up (by assumption) (by omega)) | (with_reducible refine Rd.up (by assumption) (by omega)) | (with_reducible refine RdU.up (RdB.u (by assumption)) (by omega)) | (with_reducible refine RdU.drew ?_) | (with_reducible refine RdU.drewN ?_ _) | (with_reducible refine RdU.alloc ?_ _) | (with_reducible refine RdU.setCell ?_ ?_ _) | (with_reducible refine RdU.below ?_ (by assumption)) | omega | (focus (simp; done)) | (focus (simp; omega))))); rintro e w5 ⟨v5, rfl, hv5, hu5, hr5, ho5⟩; have hz5 := ho5.size; (try simp at hz5); have own5 := own_only hown ho5 (by omega))) | (go_at_call_of 39 (Value.int IntKind.i64 256); have _t := tk6; clear _t; go_must (clear tk6; (with_reducible refine (pick_U rb (p + 3 + 3 * k + 1) 256 _ ?_ (by omega) (by omega)).mono ?_); (exact (by repeat (first | (with_reducible refine RdU.up (by assumption) (by omega)) | (with_reducible refine Rd.up (by assumption) (by omega)) | (with_reducible refine RdU.up (RdB.u (by assumption)) (by omega)) | (with_reducible refine RdU.drew ?_) | (with_reducible refine RdU.drewN ?_ _) | (with_reducible refine RdU.alloc ?_ _) | (with_reducible refine RdU.setCell ?_ ?_ _) | (with_reducible refine RdU.below ?_ (by assumption)) | omega | (focus (simp; done)) | (focus (simp; omega))))); rintro e w6 ⟨v6, rfl, hv6, hu6, hr6, ho6⟩; have hz6 := ho6.size; (try simp at hz6); have own6 := own_only own5 ho6 (by omega))) | (go_at_call_of 39 (Value.int IntKind.i64 8); go_must ((with_reducible refine (pick_U rb (p + 3 + 3 * k + 2) 8 _ ?_ (by omega) (by omega)).mono ?_); (exact (by repeat (first | (with_reducible refine RdU.up (by assumption) (by omega)) | (with_reducible refine Rd.up (by assumption) (by omega)) | (with_reducible refine RdU.up (RdB.u (by assumption)) (by omega)) | (with_reducible refine RdU.drew ?_) | (with_reducible refine RdU.drewN ?_ _) | (with_reducible refine RdU.alloc ?_ _) | (with_reducible refine RdU.setCell ?_ ?_ _) | (with_reducible refine RdU.below ?_ (by assumption)) | omega | (focus (simp; done)) | (focus (simp; omega))))); rintro e w7 ⟨v7, rfl, hv7, hu7, hr7, ho7⟩; have hz7 := ho7.size; (try simp at hz7); have own7 := own_only (own6.alloc _) ho7 (by omega); obtain ⟨x, hx⟩ := nth_in (zs := [192, 219, 220, 221, 0, 255, v5, v6]) ((Blk.new _ _ _).grown ho7 (by simp; omega)) hv7 hu7)) | (at_builtin; refine at_app (.tmp 23) (.tmp 33) rfl ?_; go_must (refine wpList_app ((own_lift own7 (by repeat (first | (with_reducible exact own7) | (with_reducible refine World.ownsRow.drew ?_) | (with_reducible refine own_drewN ?_ _) | (with_reducible refine World.ownsRow.alloc ?_ _) | (with_reducible refine own_below ?_ (by assumption)))))) (Ints.lit [x] (Blk.new _ _ _)) rfl (.tmp 23) (.tmp 33) rfl rfl rfl (k + 1) (by first | omega | (simp; done) | (simp; omega)) (by first | omega | (simp; done) | (simp; omega)) (by first | omega | (simp; done) | (simp; omega)) ?_; intro A8 c8 w8 own8 ho8 hat8 hc8 hd8; (try simp only [List.nil_append] at own8); have hz8 := ho8.size; (try simp at hz8))))
        go_roundw
        case rel => exact ⟨k + 1, _, by omega, by go_num, own8, ((hr7.alloc _).grown ho8 (fun g hg => by have := (own7.lt g hg).1; omega)).up (by omega), only_own (only_alloc (only_trans (only_alloc (only_trans (only_trans hg ho5) ho6) _) ho7) _) ho8 (fun g hg => .inr (own7.lt g hg).1), by omega⟩
        case measure => simp [intOf]; omega
      · obtain rfl : k = N := by omega
        by_cases hk0 : k = 0
        · subst hk0
          obtain ⟨A', c', rfl, hc, hd⟩ := own_form hown
          go_wp2
          go_ret
          exact ⟨_, 0, _, ys, rfl, by omega, hown, hc, hd, hr.up (by omega), hg⟩
        · obtain ⟨g, cap, rfl, hgb, hgl⟩ := hown.form (by omega)
          have hk1 : (0 : Int) < (k : Int) := by omega
          have hk2 : 0 < k := by omega
          go_wp2_with fail
          (with_reducible refine (pick_U rb (p + 3 + 3 * k) 40 _ ?_ (by omega) (by omega)).mono ?_); (exact (by repeat (first | (with_reducible refine RdU.up (by assumption) (by omega)) | (with_reducible refine Rd.up (by assumption) (by omega)) | (with_reducible refine RdU.up (RdB.u (by assumption)) (by omega)) | (with_reducible refine RdU.drew ?_) | (with_reducible refine RdU.drewN ?_ _) | (with_reducible refine RdU.alloc ?_ _) | (with_reducible refine RdU.setCell ?_ ?_ _) | (with_reducible refine RdU.below ?_ (by assumption)) | omega | (focus (simp; done)) | (focus (simp; omega))))); rintro e w5 ⟨v5, rfl, hv5, hu5, hr5, ho5⟩; have hz5 := ho5.size; (try simp at hz5)
          have own5 := own_only hown ho5 (by omega)
          obtain ⟨hc5, hd5⟩ := own_cap own5
          by_cases h5 : v5 = 0
          · subst h5
            obtain ⟨u, hu, hcu⟩ := own_cell own5 hk2
            have hfu := own5.frozenAt 0
            have hst := (own5.stored 0 (.int .i64 256)).1
            rw [← List.map_set] at hst
            have HS := Lib.hid hst
            clear hst hu
            go_wp2
            go_ret
            exact ⟨_, k, _, _, rfl, by omega, HS.out, hc5, hd5, (hr5.setCell (by simp; omega) _).up (by omega), only_setCell (only_trans hg ho5) (.inr hgb) _⟩
          · have hz5 : (v5 == 0) = false := by simpa using h5
            go_wp2
            go_ret
            exact ⟨_, k, _, ys, rfl, by omega, own5, hc5, hd5, hr5.up (by omega), only_trans hg ho5⟩
/-- A list that was drawn, the reader forgotten. -/
def Listed (most : Nat) (w : World) (e : Ending) (w' : World) : Prop :=
  ∃ (A : Option Addr) (n c : Nat) (xs : List Int), e = .returned (.slice A n c) ∧ n ≤ most ∧ Ints w' A n xs ∧ n ≤ c ∧ c ≤ maxLen ∧ Below w.heap.size w w'
theorem DrawPacketBytes_any (A : Option Addr) (n c : Nat) (w : World) (hC : Code w A n c) : Calls Tryd.prog 19 #[.slice A n c] w (Listed 21 w) := by
  go_enter Tryd.func19, Tryd.ntmps19
  go_wp2_with (first | (go_at_call 34; go_must ((with_reducible refine (open_U _ _ _ _ (hC)).mono ?_); rintro e w1 ⟨rb, rfl, hrb, hr1, hb1⟩; (try simp at hrb); have hrl := hr1.lt; have hz1 := hb1.size; (try simp at hz1))) | (go_at_call 33; go_must ((with_reducible refine (l92Packet_any rb 0 _ ?_ (by omega)).mono ?_); (exact (by repeat (first | (with_reducible refine RdU.up (by assumption) (by omega)) | (with_reducible refine Rd.up (by assumption) (by omega)) | (with_reducible refine RdU.up (RdB.u (by assumption)) (by omega)) | (with_reducible refine RdU.drew ?_) | (with_reducible refine RdU.drewN ?_ _) | (with_reducible refine RdU.alloc ?_ _) | (with_reducible refine RdU.setCell ?_ ?_ _) | (with_reducible refine RdU.below ?_ (by assumption)) | omega | (focus (simp; done)) | (focus (simp; omega))))); rintro e w2 ⟨A2, m, c2, xs, rfl, hm, own2, hc2, hd2, hr2, ho2⟩; have hz2 := ho2.size; (try simp at hz2))))
  go_ret
  exact ⟨_, _, _, _, rfl, hm, Ints.of_own own2, hc2, hd2, (by repeat (first | (with_reducible exact b_refl _) | (with_reducible refine b_alloc ?_ _) | (with_reducible refine b_drew ?_) | (with_reducible refine b_drewN ?_ _) | (with_reducible refine b_set ?_ ?_ _) | (with_reducible refine b_trans ?_ (by assumption)) | (with_reducible refine b_only ?_ (by assumption) ?_) | omega | (focus (simp; done)) | (focus (simp; omega))))⟩
end Go.Proofs.YtoeajbnjenceaaaDoor

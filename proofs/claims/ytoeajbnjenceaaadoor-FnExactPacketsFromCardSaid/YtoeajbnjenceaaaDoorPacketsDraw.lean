/-
  THE DRAW OF PACKETS: a list of at most 11 lists of at most 21 integers each.
-/
import Derived.Test.YtoeajbnjenceaaaDoorPackets
set_option linter.unusedVariables false
set_option linter.unusedSimpArgs false
namespace Go.Proofs.YtoeajbnjenceaaaDoor
open Go.ChangeShapes Go.WideShapes Go.ChangeAt Go.RowKit

def Few (xss : List (List Int)) : Prop := ∀ xs ∈ xss, xs.length ≤ 21
theorem Few.snoc {xss : List (List Int)} {xs : List Int} (h : Few xss) (h1 : xs.length ≤ 21) : Few (xss ++ [xs]) := by
  intro ys hy
  rcases List.mem_append.1 hy with hy | hy
  · exact h ys hy
  · simp at hy
    subst hy
    exact h1
theorem Few.tot {xss : List (List Int)} (h : Few xss) : tot xss ≤ 21 * xss.length := by
  induction xss with
  | nil => simp [Go.Proofs.YtoeajbnjenceaaaDoor.tot]
  | cons xs r ih =>
    have h1 := h xs (List.mem_cons_self ..)
    have h2 := ih fun ys hy => h ys (List.mem_cons_of_mem _ hy)
    simp only [Go.Proofs.YtoeajbnjenceaaaDoor.tot, List.flatten_cons, List.length_append, List.length_cons] at h2 ⊢
    omega
def DrawnSS (most : Nat) (rb b : Nat) (w : World) (e : Ending) (w' : World) : Prop :=
  ∃ (A : Option Addr) (n c : Nat) (ss : List Sl) (xss : List (List Int)), e = .returned (.slice A n c) ∧ n ≤ most ∧ OwnLists w' w.heap.size (.slice A n c) n ss xss ∧ Few xss ∧ n ≤ c ∧ c ≤ maxLen ∧ RdU w' rb b ∧ w.grownBy w' (some rb)
set_option maxHeartbeats 4000000 in
theorem l92Packets_any (rb p : Nat) (w : World) (h : RdU w rb p) (hp : p ≤ 500000) :
    Calls Tryd.prog 38 #[.pointer (some ⟨rb, 0, none⟩)] w (DrawnSS 11 rb (p + 3000) w) := by
  have hlt := h.lt
  go_enter Tryd.func38, Tryd.ntmps38
  go_wp2_with fail
  (with_reducible refine (pick_U rb (p) 5 _ ?_ (by omega) (by omega)).mono ?_); (exact (by repeat (first | (with_reducible refine RdU.up (by assumption) (by omega)) | (with_reducible refine Rd.up (by assumption) (by omega)) | (with_reducible refine RdU.up (RdB.u (by assumption)) (by omega)) | (with_reducible refine RdU.drew ?_) | (with_reducible refine RdU.drewN ?_ _) | (with_reducible refine RdU.alloc ?_ _) | (with_reducible refine RdU.setCell ?_ ?_ _) | (with_reducible refine RdU.below ?_ (by assumption)) | omega | (focus (simp; done)) | (focus (simp; omega))))); rintro e w1 ⟨v1, rfl, hv1, hu1, hr1, ho1⟩; have hz1 := ho1.size; (try simp at hz1)
  go_wp2_with fail
  (with_reducible refine (pick_U rb (p + 1) 24 _ ?_ (by omega) (by omega)).mono ?_); (exact (by repeat (first | (with_reducible refine RdU.up (by assumption) (by omega)) | (with_reducible refine Rd.up (by assumption) (by omega)) | (with_reducible refine RdU.up (RdB.u (by assumption)) (by omega)) | (with_reducible refine RdU.drew ?_) | (with_reducible refine RdU.drewN ?_ _) | (with_reducible refine RdU.alloc ?_ _) | (with_reducible refine RdU.setCell ?_ ?_ _) | (with_reducible refine RdU.below ?_ (by assumption)) | omega | (focus (simp; done)) | (focus (simp; omega))))); rintro e w2 ⟨v2, rfl, hv2, hu2, hr2, ho2⟩; have hz2 := ho2.size; (try simp at hz2)
  have hown0 := own_only (own_only (ownS_empty w w.heap.size (Nat.le_refl _)) ho1 (by omega)) ho2 (by omega)
  have hg0 : w.grownBy w2 (some rb) := (by repeat (first | (with_reducible exact only_refl _ _) | (with_reducible refine only_drew ?_) | (with_reducible refine only_drewN ?_ _) | (with_reducible refine only_alloc ?_ _) | (with_reducible refine only_setCell ?_ (.inl rfl) _) | (with_reducible refine only_setCell ?_ (.inr ?_) _) | (with_reducible refine only_below ?_ (by assumption)) | (with_reducible refine only_trans ?_ (by assumption)) | omega | (focus (simp; done)) | (focus (simp; omega))))
  have HO := Lib.hid hown0
  have HG := Lib.hid hg0
  clear hown0 hg0
  by_cases h0 : v2 = 0
  case' pos =>
    subst h0
    go_wp2_with fail
    (with_reducible refine (pick_U rb (p + 2) 2 _ ?_ (by omega) (by omega)).mono ?_); (exact (by repeat (first | (with_reducible refine RdU.up (by assumption) (by omega)) | (with_reducible refine Rd.up (by assumption) (by omega)) | (with_reducible refine RdU.up (RdB.u (by assumption)) (by omega)) | (with_reducible refine RdU.drew ?_) | (with_reducible refine RdU.drewN ?_ _) | (with_reducible refine RdU.alloc ?_ _) | (with_reducible refine RdU.setCell ?_ ?_ _) | (with_reducible refine RdU.below ?_ (by assumption)) | omega | (focus (simp; done)) | (focus (simp; omega))))); rintro e w3 ⟨v3, rfl, hv3, hu3, hr3, ho3⟩; have hz3 := ho3.size; (try simp at hz3)
    have hx0 : 0 ≤ 10 + v3 ∧ 10 + v3 ≤ 11 := by omega
    have HO3 := Lib.hid (own_only HO.out ho3 (by omega))
    have HG3 : Hid (w.grownBy w3 (some rb)) := only_trans HG.out ho3
    have hr9 : RdU w3 rb (p + 3) := hr3
    have hl9 : rb < w3.heap.size := hr3.lt
    have hl8 : w.heap.size < w3.heap.size := by omega
    go_wp2
    generalize hz : (10 + v3 : Int) = z at *
    obtain ⟨N, rfl⟩ := Int.eq_ofNat_of_zero_le hx0.1
    have hM : N ≤ 11 := by omega
    clear hx0 HO HG hr2 hr1 hr3 ho1 ho2 ho3 hz
    generalize w3 = wx at *
  case' neg =>
    have hz0 : (v2 == 0) = false := by simpa using h0
    obtain ⟨N, rfl⟩ := Int.eq_ofNat_of_zero_le hv1
    have hM : N ≤ 11 := by omega
    have HO3 := HO
    have HG3 := HG
    have hr9 : RdU w2 rb (p + 3) := hr2.up (by omega)
    have hl9 : rb < w2.heap.size := hr2.lt
    have hl8 : w.heap.size < w2.heap.size := by omega
    go_wp2
    clear HO HG hr2 hr1 ho1 ho2 h0 hz0
    generalize w2 = wx at *
  all_goals
    go_loopw [3, 5] (fun v i wr => ∃ (k : Nat) (ss : List Sl) (xss : List (List Int)), k ≤ N ∧ i = .int .i64 k ∧ wr.ownsRow w.heap.size 22 1 v k (ss.map slv) ∧ Owns wr w.heap.size ss xss ∧ Hid (Few xss) ∧ RdU wr rb (p + 3 + 200 * k) ∧ w.grownBy wr (some rb) ∧ w.heap.size < wr.heap.size) (fun _ i _ => N - (intOf i).toNat)
    case atStart => exact ⟨0, [], [], Nat.zero_le _, rfl, HO3.out, Owns.nil _ _, fun xs h => (by cases h), hr9.up (by omega), HG3.out, hl8⟩
    case round =>
      obtain ⟨k, ss, xss, hk, rfl, hown, hows, HF, hr, hg, hl7⟩ := hrel
      clear HO3 HG3 hr9 hl9 hl8
      have hrl := hr.lt
      by_cases hlt : k < N
      · skip
        go_wp2_with fail
        (with_reducible refine (l92Packet_any rb (p + 3 + 200 * k) _ ?_ (by omega)).mono ?_); (exact (by repeat (first | (with_reducible refine RdU.up (by assumption) (by omega)) | (with_reducible refine Rd.up (by assumption) (by omega)) | (with_reducible refine RdU.up (RdB.u (by assumption)) (by omega)) | (with_reducible refine RdU.drew ?_) | (with_reducible refine RdU.drewN ?_ _) | (with_reducible refine RdU.alloc ?_ _) | (with_reducible refine RdU.setCell ?_ ?_ _) | (with_reducible refine RdU.below ?_ (by assumption)) | omega | (focus (simp; done)) | (focus (simp; omega))))); rintro e w2 ⟨A2, m2, c2, xs, rfl, hm2, own2, hc2, hd2, hr2, ho2⟩; have hz2 := ho2.size; (try simp at hz2)
        have hown2 := own_only hown ho2 (by omega)
        have hows2 := hows.only ho2 (by omega)
        have hxl : Hid (xs.length ≤ 21) := by show _ ≤ _; have := (Ints.of_own own2).len; omega
        have hns : ∀ (j : Nat) (t : Sl), ss[j]? = some t → (slv (A2, m2, c2)).ownBlock = none ∨ (slv (A2, m2, c2)).ownBlock ≠ (slv t).ownBlock := by
          intro j t hj
          rcases hgb : (slv (A2, m2, c2)).ownBlock with _ | g
          · exact .inl rfl
          · refine .inr (fun e => ?_)
            have h1 := (own2.lt g hgb).1
            have h2 := (hows.lt hj e.symm).2
            omega
        have HN := Lib.hid hns
        clear hns hown hows
        go_wp2_with (at_builtin; refine at_app (.tmp 20) (.tmp 23) rfl ?_; go_must (refine wpList_appS ((own_lift hown2 (by repeat (first | (with_reducible exact hown2) | (with_reducible refine World.ownsRow.drew ?_) | (with_reducible refine own_drewN ?_ _) | (with_reducible refine World.ownsRow.alloc ?_ _) | (with_reducible refine own_below ?_ (by assumption)))))) (Reads.litS [(A2, m2, c2)] (Blk.new _ _ _)) rfl (.tmp 20) (.tmp 23) rfl rfl rfl (k + 1) (by first | omega | (simp; done) | (simp; omega)) (by first | omega | (simp; done) | (simp; omega)) (by first | omega | (simp; done) | (simp; omega)) ?_; intro A3 c3 w3 own3 ho3 hat3 hc3 hd3; (try simp only [List.nil_append] at own3); have hz3 := ho3.size; (try simp at hz3)))
        go_roundw
        case rel =>
          have h1 := (hows2.alloc (.cells #[.slice A2 m2 c2] 22)).kept ho3 (fun j s hs => by
            obtain ⟨ys, _, hy⟩ := hows2.get hs
            exact own_other hy hown2 (by decide))
          have h2 : w3.ownsRow wr.heap.size 3 1 (slv (A2, m2, c2)) m2 (xs.map (Value.int .i64)) := (own2.alloc (.cells #[.slice A2 m2 c2] 22)).kept ho3 (own_other own2 hown2 (by decide))
          exact ⟨k + 1, _, _, by omega, by go_num, own3, h1.snoc (own_mono h2 (by omega)) HN.out, HF.out.snoc hxl.out, ((hr2.alloc _).grown ho3 (fun g hg => by have := (hown2.lt g hg).1; omega)).up (by omega), only_own (only_alloc (only_trans hg ho2) _) ho3 (fun g hg => .inr (hown2.lt g hg).1), by omega⟩
        case measure => simp [intOf]; omega
      · obtain rfl : k = N := by omega
        obtain ⟨A', c', rfl, hc, hd⟩ := own_form hown
        go_wp2
        go_ret
        exact ⟨_, k, _, ss, xss, rfl, by omega, ⟨hown, hows⟩, HF.out, hc, hd, hr.up (by omega), hg⟩
theorem DrawPacketsBytes_any (A : Option Addr) (n c : Nat) (w : World) (hC : Code w A n c) : Calls Tryd.prog 24 #[.slice A n c] w fun e w' =>
    ∃ (A : Option Addr) (n c : Nat) (ss : List Sl) (xss : List (List Int)), e = .returned (.slice A n c) ∧ n ≤ 11 ∧ Lists w' A n ss xss ∧ Few xss ∧ n ≤ c ∧ c ≤ maxLen ∧ Below w.heap.size w w' := by
  go_enter Tryd.func24, Tryd.ntmps24
  go_wp2_with (first | (go_at_call 34; go_must ((with_reducible refine (open_U _ _ _ _ (hC)).mono ?_); rintro e w1 ⟨rb, rfl, hrb, hr1, hb1⟩; (try simp at hrb); have hrl := hr1.lt; have hz1 := hb1.size; (try simp at hz1))) | (go_at_call 38; go_must ((with_reducible refine (l92Packets_any rb 0 _ ?_ (by omega)).mono ?_); (exact (by repeat (first | (with_reducible refine RdU.up (by assumption) (by omega)) | (with_reducible refine Rd.up (by assumption) (by omega)) | (with_reducible refine RdU.up (RdB.u (by assumption)) (by omega)) | (with_reducible refine RdU.drew ?_) | (with_reducible refine RdU.drewN ?_ _) | (with_reducible refine RdU.alloc ?_ _) | (with_reducible refine RdU.setCell ?_ ?_ _) | (with_reducible refine RdU.below ?_ (by assumption)) | omega | (focus (simp; done)) | (focus (simp; omega))))); rintro e w2 ⟨A2, m, c2, ss, xss, rfl, hm, own2, hf, hc2, hd2, hr2, ho2⟩; have hz2 := ho2.size; (try simp at hz2))))
  go_ret
  exact ⟨_, _, _, _, _, rfl, hm, own2.read, hf, hc2, hd2, (by repeat (first | (with_reducible exact b_refl _) | (with_reducible refine b_alloc ?_ _) | (with_reducible refine b_drew ?_) | (with_reducible refine b_drewN ?_ _) | (with_reducible refine b_set ?_ ?_ _) | (with_reducible refine b_trans ?_ (by assumption)) | (with_reducible refine b_only ?_ (by assumption) ?_) | omega | (focus (simp; done)) | (focus (simp; omega))))⟩
end Go.Proofs.YtoeajbnjenceaaaDoor

/-
  FnExactPacketBytes returns true for all lists: the program's PacketBytes returns what the reference's returns, leaves its argument alone, and its result shares no memory with it.
-/
import Derived.Test.YtoeajbnjenceaaaPacket
import Derived.Test.YtoeajbnjenceaaaRow
set_option linter.unusedVariables false
set_option linter.unusedSimpArgs false
namespace Go.Proofs.Ytoeajbnjenceaaa
open Go.ChangeShapes Go.WideShapes Go.ChangeAt Go.RowKit

set_option maxHeartbeats 4000000 in
theorem FnExactPacketBytes_small (A : Option Addr) (n c : Nat) (xs : List Int) (w : World) (hx : Ints w A n xs) (hn : n ≤ 1048576) :
    Calls Try.prog 3 #[.slice A n c] w fun e w' => e = .returned (.bool true) ∧ Below w.heap.size w w' := by
  have hni : ¬ (1048576 : Int) < n := by omega
  have hlen := Lib.hid (pack_len xs)
  have HXL := Lib.hid hx.len
  go_enter Try.func3, Try.ntmps3
  go_wp2_with fail
  (with_reducible refine (toIntS_any A n c xs _ hx (by omega)).mono ?_); rintro e w1 ⟨A1, c1, rfl, ho1, hb1⟩; have hz1 := hb1.size; (try simp at hz1)
  go_wp2_with fail
  (with_reducible refine (spec_PacketBytes A1 n c1 xs _ (Ints.of_own ho1) (by omega)).mono ?_); rintro e w2 ⟨A2, m2, c2, rfl, hm2, ho2, hc2, hd2, hb2⟩; have hz2 := hb2.size; (try simp at hz2)
  have HM2 := Lib.hid hm2
  clear hm2
  have B2 : Below w.heap.size w w2 := b_trans hb1 hb2
  go_wp2_with fail
  (with_reducible refine (toIntS_any A n c xs _ (hx.below B2) (by omega)).mono ?_); rintro e w3 ⟨A3, c3, rfl, ho3, hb3⟩; have hz3 := hb3.size; (try simp at hz3)
  go_wp2_with fail
  (with_reducible refine (impl_PacketBytes A3 n c3 xs _ (Ints.of_own ho3) (by omega)).mono ?_); rintro e w4 ⟨A4, m4, c4, rfl, hm4, ho4, hc4, hd4, hb4⟩; have hz4 := hb4.size; (try simp at hz4)
  have B4 : Below w.heap.size w w4 := b_trans (b_trans B2 hb3) hb4
  obtain rfl : m2 = m4 := HM2.out.trans hm4.symm
  clear hm4
  have hml : m2 ≤ 2097160 := by
    have h1 := HM2.out
    have h2 := hlen.out
    have h3 := HXL.out
    omega
  generalize hys : (if packOk xs = true then packed xs else []) = ys at *
  generalize hbo : packOk xs = bo at *
  have HY := Lib.hid hys
  have HBO := Lib.hid hbo
  clear hys hbo hlen
  have w4r := own_below (own_below ho2 hb3) hb4
  go_wp2_with fail
  (with_reducible refine (eqIntS_any A4 A2 m2 m2 c4 c2 ys ys _ (Ints.of_own ho4) (Ints.of_own w4r) (by omega) (by omega)).mono ?_); rintro e w5 ⟨rfl, hb5⟩; have hz5 := hb5.size; (try simp at hz5)
  have B5 : Below w.heap.size w w5 := b_trans B4 hb5
  go_wp2_with fail
  (with_reducible refine (toIntS_any A n c xs _ (hx.below B5) (by omega)).mono ?_); rintro e w6 ⟨A6, c6, rfl, ho6, hb6⟩; have hz6 := hb6.size; (try simp at hz6)
  have x6 := own_below (own_below (own_below ho3 hb4) hb5) hb6
  go_wp2_with fail
  (with_reducible refine (eqIntS_any A3 A6 n n c3 c6 xs xs _ (Ints.of_own x6) (Ints.of_own ho6) (by omega) (by omega)).mono ?_); rintro e w7 ⟨rfl, hb7⟩; have hz7 := hb7.size; (try simp at hz7)
  have B7 : Below w.heap.size w w7 := b_trans (b_trans B5 hb6) hb7
  have x7 := own_below x6 hb7
  have g7 := own_below (own_below (own_below ho4 hb5) hb6) hb7
  have r7 := own_below (own_below (own_below w4r hb5) hb6) hb7
  have hg7 := own_apart g7 ho3 (Nat.le_refl _)
  have hr7 := own_apart' ho2 ho3 (Nat.le_refl _)
  go_wp2_with fail
  (with_reducible refine (markIntS_any _ A3 n c3 _ 1 _ x7 (by omega) (by omega) (by omega)).mono ?_)
  rintro e w8 ⟨rfl, x8, hg8⟩
  have B8 : Below w.heap.size w w8 := b_own B7 hg8 (fun g hg => by have := (x7.lt g hg).1; omega)
  have g8 := g7.kept hg8 hg7
  have r8 := r7.kept hg8 hr7
  have hq8 : ¬ (1 + (n : Int)) < 0 := by omega
  go_wp2_with fail
  (with_reducible refine (eqIntS_any A4 A2 m2 m2 c4 c2 ys ys _ (Ints.of_own g8) (Ints.of_own r8) (by omega) (by omega)).mono ?_); rintro e w9 ⟨rfl, hb9⟩; have hz9 := hb9.size; (try simp at hz9)
  have g9 := own_below g8 hb9
  have r9 := own_below r8 hb9
  go_wp2_with fail
  (with_reducible refine (markIntS_any _ A4 m2 c4 _ 1 _ g9 (by omega) (by omega) (by omega)).mono ?_)
  rintro e w10 ⟨rfl, g10, hg10⟩
  have hx9 := own_apart' ho2 ho4 (by have := hb3.size; omega)
  have r10 := r9.kept hg10 hx9
  have B10 : Below w.heap.size w w10 := b_own (b_trans B8 hb9) hg10 (fun g hg => by have := (g9.lt g hg).1; omega)
  have hq10 : ¬ (1 + (m2 : Int)) < 0 := by omega
  go_wp2_with fail
  (with_reducible refine (heldIntS_any A4 m2 c4 1 _ (Ints.of_own g10) (by omega) (by omega) (by omega)).mono ?_)
  rintro e w11 ⟨rfl, rfl⟩
  go_wp2_with fail
  (with_reducible refine (toIntS_any A n c xs _ (hx.below B10) (by omega)).mono ?_); rintro e w12 ⟨A12, c12, rfl, ho12, hb12⟩; have hz12 := hb12.size; (try simp at hz12)
  go_wp2_with fail
  (with_reducible refine (impl_PacketBytes A12 n c12 xs _ (Ints.of_own ho12) (by omega)).mono ?_); rintro e w13 ⟨A13, m13, c13, rfl, hm13, ho13, hc13, hd13, hb13⟩; have hz13 := hb13.size; (try simp at hz13)
  rw [HBO.out] at hm13 ho13
  rw [HY.out] at hm13 ho13
  rw [HBO.out]
  obtain rfl : m2 = m13 := HM2.out.trans hm13.symm
  clear hm13
  have r13 := own_below (own_below r10 hb12) hb13
  have g13 := own_below (own_below g10 hb12) hb13
  have B13 : Below w.heap.size w w13 := b_trans (b_trans B10 hb12) hb13
  go_wp2_with fail
  (with_reducible refine (eqIntS_any A13 A2 m2 m2 c13 c2 ys ys _ (Ints.of_own ho13) (Ints.of_own r13) (by omega) (by omega)).mono ?_); rintro e w14 ⟨rfl, hb14⟩; have hz14 := hb14.size; (try simp at hz14)
  go_wp2_with fail
  (with_reducible refine (heldIntS_any A4 m2 c4 1 _ (Ints.of_own (own_below g13 hb14)) (by omega) (by omega) (by omega)).mono ?_)
  rintro e w15 ⟨rfl, rfl⟩
  go_wp2
  go_ret
  exact ⟨rfl, b_trans B13 hb14⟩
set_option maxHeartbeats 1000000 in
theorem FnExactPacketBytes_calls (A : Option Addr) (n c : Nat) (xs : List Int) (w : World) (hx : Ints w A n xs) (hn : n ≤ 9223372036854775807) :
    Calls Try.prog 3 #[.slice A n c] w fun e w' => e = .returned (.bool true) ∧ Below w.heap.size w w' := by
  by_cases h1 : n ≤ 1048576
  · exact FnExactPacketBytes_small A n c xs w hx h1
  · have h2 : (1048576 : Int) < n := by omega
    go_enter Try.func3, Try.ntmps3
    go_wp2
    go_ret
    exact ⟨rfl, (by repeat (first | (with_reducible exact b_refl _) | (with_reducible refine b_alloc ?_ _) | (with_reducible refine b_drew ?_) | (with_reducible refine b_drewN ?_ _) | (with_reducible refine b_set ?_ ?_ _) | (with_reducible refine b_trans ?_ (by assumption)) | (with_reducible refine b_only ?_ (by assumption) ?_) | omega | (focus (simp; done)) | (focus (simp; omega))))⟩
set_option maxRecDepth 100000 in
theorem FnExactPacketBytes_lifted (os : Os) (started : os.Started) (H : Type) (enc : TypeId × Value → H) :
    ReturnsInHanded {} Try.checked os 3 .any (Rows.fnExactPacketBytesSpec.pre6 enc Try.prog Try.f3 Rows.fnExactPacketBytesRow.domain false) (Rows.fnExactPacketBytesSpec.post enc Try.prog Try.f3 false true false false) := by
  refine returnsInHanded_of_change (C := Try.checked) own started (by kernel_rfl) Try.func3
    (ChangeSpec.witness6 (enc := enc) (C := Try.checked) false ⟨#[], #[.slice none 0 0], []⟩ 8 (by kernel_rfl) (by kernel_rfl) (by kernel_rfl) (by kernel_rfl)) ?_
  intro W base args ds gs before hval0 hW _ _
  have hval : ∀ (j : Nat) t v, Try.f3.params[j]? = some t → args[j]? = some v → Value.okWide Try.prog W .any base t v := hval0
  have hW2 := hW
  obtain ⟨p, q, hA0, hV, rfl, _, _⟩ := hW2
  have hA : DataW.TrodAll enc Try.prog W 0 (fun _ => true) true Try.f3.params.toList args.toList ds p := hA0
  rw [Try.params3] at hA hval
  obtain ⟨v0, d0, rfl, rfl, h0⟩ := trodAll_one hA
  obtain ⟨rfl, rfl⟩ := trodVars_none hV
  obtain ⟨A1, n1, c1, xs, rfl, hx, _, hc1, hm1⟩ := open_row Try.underlying22 Try.underlying3 (by kernel_rfl) (hval 0 _ v0 rfl rfl) h0
  refine (FnExactPacketBytes_calls A1 n1 c1 xs W hx (by unfold maxLen at hm1; omega)).mono fun e W' ⟨he, hb⟩ => ?_
  subst he
  exact ⟨_, rfl, law_post (f := Try.f3) (s := Rows.fnExactPacketBytesSpec) 4 laid_out (by kernel_rfl) rfl (by kernel_rfl) Try.underlying4 hW rfl hb⟩
theorem FnExactPacketBytes_holds : Rows.FnExactPacketBytesSaid :=
  OpenClaim.holds_of_wide 3 Try.f3 rfl rfl rfl rfl rfl rfl rfl ⟨rfl, rfl, rfl, rfl, rfl⟩ rfl rfl rfl rfl rfl (by kernel_rfl) Try.func3 (by kernel_rfl)
    (of_decide_eq_true (by kernel_rfl)) (by unfold Func.isWrapper; rw [if_neg (of_decide_eq_false (by kernel_rfl))]; exact ⟨rfl, rfl⟩)
    (fun os started H enc _ => FnExactPacketBytes_lifted os started H enc)

end Go.Proofs.Ytoeajbnjenceaaa

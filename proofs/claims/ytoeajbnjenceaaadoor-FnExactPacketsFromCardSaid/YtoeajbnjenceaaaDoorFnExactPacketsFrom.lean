/-
  FnExactPacketsFrom returns true for all lists: the program's PacketsFrom returns what the reference's returns, leaves its argument alone, and its results share no memory with it nor with each other's. (A tied card: the library's variable errorType holds its handle.)
-/
import Derived.Test.YtoeajbnjenceaaaDoorFromsLaw
import Derived.Test.YtoeajbnjenceaaaDoorDoor
set_option linter.unusedVariables false
set_option linter.unusedSimpArgs false
namespace Go.Proofs.YtoeajbnjenceaaaDoor
open Go.ChangeShapes Go.WideShapes Go.ChangeAt Go.RowKit

section
variable {w w' : World} {base lo hi n : Nat} {v : Value} {ss : List Sl} {xss : List (List Int)}
theorem OwnLists.above (h : OwnLists w base v n ss xss) (ho : Outside lo hi w w') (hb : hi ≤ base) : OwnLists w' base v n ss xss :=
  ⟨own_outside h.1 ho (fun g hg => .inr (Nat.le_trans hb (h.1.lt g hg).1)), h.2.outside ho (fun k s g hs hg => .inr (Nat.le_trans hb (h.2.lt hs hg).1))⟩
theorem OwnLists.under {w0 : World} {b0 : Nat} (h : OwnLists w base v n ss xss) (h0 : OwnLists w0 b0 v n ss xss) (ho : Outside lo hi w w') (hb : w0.heap.size ≤ lo) : OwnLists w' base v n ss xss :=
  ⟨own_outside h.1 ho (fun g hg => .inl (Nat.lt_of_lt_of_le (h0.1.lt g hg).2 hb)), h.2.outside ho (fun k s g hs hg => .inl (Nat.lt_of_lt_of_le (h0.2.lt hs hg).2 hb))⟩
theorem Outside.one {r : Option Nat} (hg : w.grownBy w' r) (hr : ∀ g, r = some g → lo ≤ g ∧ g < hi) : Outside lo hi w w' := (Outside.refl lo hi w).grown hg hr
end
set_option maxHeartbeats 4000000 in
theorem FnExactPacketsFrom_small (A : Option Addr) (n c : Nat) (xs : List Int) (w : World) (hx : Ints w A n xs) (hn : n ≤ 1048576) (hE : ErrT w) :
    Calls Tryd.prog 3 #[.slice A n c] w fun e w' => e = .returned (.bool true) ∧ Below w.heap.size w w' := by
  have hni : ¬ (1048576 : Int) < n := by omega
  go_enter Tryd.func3, Tryd.ntmps3
  go_wp2_with fail
  (with_reducible refine (toIntS_any A n c xs _ hx (by omega)).mono ?_); rintro e w1 ⟨A1, c1, rfl, ho1, hb1⟩; have hz1 := hb1.size; (try simp at hz1)
  go_wp2_with fail
  (with_reducible refine (spec_PacketsFrom A1 n c1 xs _ (Ints.of_own ho1) (own_cap ho1).1 (own_cap ho1).2 hn).mono ?_); rintro e w2 ⟨A2, n2, c2, s2, B2, m2, d2, rfl, ho2, hr2, _, hb2⟩; have hz2 := hb2.size; (try simp at hz2)
  have U2 : Below w.heap.size w w2 := b_trans hb1 hb2
  go_wp2_with fail
  (with_reducible refine (toIntS_any A n c xs _ (hx.below U2) (by omega)).mono ?_); rintro e w3 ⟨A3, c3, rfl, ho3, hb3⟩; have hz3 := hb3.size; (try simp at hz3)
  have U3 : Below w.heap.size w w3 := b_trans U2 hb3
  have hE3 := hE.below U3
  go_wp2_with fail
  (with_reducible refine (impl_PacketsFrom A3 n c3 xs _ (Ints.of_own ho3) (own_cap ho3).1 (own_cap ho3).2 hn hE3).mono ?_); rintro e w4 ⟨A4, n4, c4, s4, B4, m4, d4, rfl, ho4, hr4, ⟨mid, hmid, hq4, hlt4⟩, hb4⟩; have hz4 := hb4.size; (try simp at hz4)
  have U4 : Below w.heap.size w w4 := b_trans U3 hb4
  obtain rfl : n2 = n4 := ho2.len.symm.trans ho4.len
  obtain rfl : m2 = m4 := by have h1 := hr2.1; have h2 := hr4.1; simp only [List.length_map, Nat.mul_one] at h1 h2; omega
  have hnl : n2 ≤ 450 := by have h1 := ho2.len; have h2 := fout_len xs; omega
  have hml : m2 ≤ 450 := by have h1 := hr2.1; have h2 := frest_len xs; simp only [List.length_map, Nat.mul_one] at h1; omega
  have htt : tot (fout xs) ≤ 9450 := fout_tot xs
  have HLT := Lib.hid hlt4
  have z23 := hb3.size
  have z34 := hb4.size
  have hA2 := ho2.below hb3
  have r4 := hA2.below hb4
  have p4 := own_below (own_below hr2 hb3) hb4
  clear hlt4 hA2
  go_wp2_with fail
  (with_reducible refine (eqIntSS_same A4 A2 n2 c4 c2 s4 s2 (fout xs) _ ho4.read r4.read (by omega) (by omega)).mono ?_); rintro e w5 ⟨rfl, hb5⟩; have hz5 := hb5.size; (try simp at hz5)
  go_wp2_with fail
  (with_reducible refine (eqIntS_any B4 B2 m2 m2 d4 d2 (frest xs) (frest xs) _ (Ints.of_own (own_below hr4 hb5)) (Ints.of_own (own_below p4 hb5)) (by omega) (by omega)).mono ?_); rintro e w6 ⟨rfl, hb6⟩; have hz6 := hb6.size; (try simp at hz6)
  have U6 : Below w.heap.size w w6 := b_trans (b_trans U4 hb5) hb6
  go_wp2_with fail
  (with_reducible refine (toIntS_any A n c xs _ (hx.below U6) (by omega)).mono ?_); rintro e w7 ⟨A7, c7, rfl, ho7, hb7⟩; have hz7 := hb7.size; (try simp at hz7)
  have x7 := own_below (own_below (own_below (own_below ho3 hb4) hb5) hb6) hb7
  go_wp2_with fail
  (with_reducible refine (eqIntS_any A3 A7 n n c3 c7 xs xs _ (Ints.of_own x7) (Ints.of_own ho7) (by omega) (by omega)).mono ?_); rintro e w8 ⟨rfl, hb8⟩; have hz8 := hb8.size; (try simp at hz8)
  have U8 : Below w.heap.size w w8 := b_trans (b_trans U6 hb7) hb8
  have x8 := own_below x7 hb8
  have a8 := (((ho4.below hb5).below hb6).below hb7).below hb8
  have q8 := own_below (own_below (own_below (own_below hq4 hb5) hb6) hb7) hb8
  have r8 := (((r4.below hb5).below hb6).below hb7).below hb8
  have p8 := own_below (own_below (own_below (own_below p4 hb5) hb6) hb7) hb8
  clear ho7 x7
  go_wp2_with fail
  (with_reducible refine (markIntS_any w2.heap.size A3 n c3 _ 1 _ x8 (by omega) (by omega) (by omega)).mono ?_); rintro e w9 ⟨rfl, _, hg9⟩
  have O9 : Outside w2.heap.size w3.heap.size w8 w9 := Outside.one hg9 (fun g hg => ho3.lt g hg)
  have U9 : Below w.heap.size w w9 := O9.below U8 U8.size U2.size
  have a9 := a8.above O9 (Nat.le_refl _)
  have q9 := own_outside q8 O9 (fun g hg => .inr (by have := (q8.lt g hg).1; omega))
  have r9 := r8.under ho2 O9 (Nat.le_refl _)
  have p9 := own_outside p8 O9 (fun g hg => .inl (hr2.lt g hg).2)
  have hk9 : ¬ (1 + (n : Int)) < 0 := by omega
  clear a8 q8 r8 p8 x8 hb5 hb6 hb7 hb8 ho4 hr4
  go_wp2_with fail
  (with_reducible refine (eqIntSS_same A4 A2 n2 c4 c2 s4 s2 (fout xs) _ a9.read r9.read (by omega) (by omega)).mono ?_); rintro e w10 ⟨rfl, hb10⟩; have hz10 := hb10.size; (try simp at hz10)
  go_wp2_with fail
  (with_reducible refine (eqIntS_any B4 B2 m2 m2 d4 d2 (frest xs) (frest xs) _ (Ints.of_own (own_below q9 hb10)) (Ints.of_own (own_below p9 hb10)) (by omega) (by omega)).mono ?_); rintro e w11 ⟨rfl, hb11⟩; have hz11 := hb11.size; (try simp at hz11)
  have U11 : Below w.heap.size w w11 := b_trans (b_trans U9 hb10) hb11
  have a11 := (a9.below hb10).below hb11
  have q11 := own_below (own_below q9 hb10) hb11
  have r11 := (r9.below hb10).below hb11
  have p11 := own_below (own_below p9 hb10) hb11
  clear a9 q9 r9 p9 hb10 hb11
  go_wp2_with fail
  (with_reducible refine (markIntSS_any w3.heap.size mid A4 n2 c4 s4 (fout xs) 1 _ a11 (by omega) (by omega) (by omega) (by omega) HLT.out).mono ?_); rintro e w12 ⟨rfl, a12, O12⟩
  have U12 : Below w.heap.size w w12 := O12.below U11 U11.size U3.size
  have q12 := own_outside q11 O12 (fun g hg => .inr (q11.lt g hg).1)
  have r12 := r11.under ho2 O12 z23
  have p12 := own_outside p11 O12 (fun g hg => .inl (Nat.lt_of_lt_of_le (hr2.lt g hg).2 z23))
  clear a11 q11 r11 p11
  go_wp2_with fail
  (with_reducible refine (markIntS_any mid B4 m2 d4 _ (1 + (tot (fout xs) : Int)) _ q12 (by omega) (by omega) (by omega)).mono ?_); rintro e w13 ⟨rfl, q13, hg13⟩
  have O13 : Outside mid w4.heap.size w12 w13 := Outside.one hg13 (fun g hg => ⟨(q12.lt g hg).1, (hq4.lt g hg).2⟩)
  have U13 : Below w.heap.size w w13 := O13.below U12 U12.size (Nat.le_trans U3.size hmid)
  have a13 : OwnLists w13 w3.heap.size (.slice A4 n2 c4) n2 s4 (marksSS 1 (fout xs)) := ⟨a12.1.kept hg13 (own_other a12.1 q12 (by decide)), a12.2.outside O13 (fun k s g hs hg => .inl (HLT.out k s g hs hg))⟩
  have r13 := r12.under ho2 O13 (Nat.le_trans z23 hmid)
  have p13 := own_outside p12 O13 (fun g hg => .inl (Nat.lt_of_lt_of_le (hr2.lt g hg).2 (Nat.le_trans z23 hmid)))
  have hk13 : ¬ (1 + (tot (fout xs) : Int)) < 0 := by omega
  have hk14 : ¬ (1 + (tot (fout xs) : Int) + (m2 : Int)) < 0 := by omega
  clear a12 q12 r12 p12
  go_wp2_with fail
  (with_reducible refine (heldIntSS_any A4 n2 c4 s4 (fout xs) 1 _ a13.read (by omega) (by omega) (by omega) (by omega)).mono ?_); rintro e w14 ⟨rfl, rfl⟩
  go_wp2_with fail
  (with_reducible refine (heldIntS_any B4 m2 d4 (1 + (tot (fout xs) : Int)) _ (Ints.of_own q13) (by omega) (by omega) (by omega)).mono ?_); rintro e w15 ⟨rfl, rfl⟩
  go_wp2_with fail
  (with_reducible refine (toIntS_any A n c xs _ (hx.below U13) (by omega)).mono ?_); rintro e w16 ⟨A16, c16, rfl, ho16, hb16⟩; have hz16 := hb16.size; (try simp at hz16)
  have U16 : Below w.heap.size w w16 := b_trans U13 hb16
  have hE16 := hE.below U16
  go_wp2_with fail
  (with_reducible refine (impl_PacketsFrom A16 n c16 xs _ (Ints.of_own ho16) (own_cap ho16).1 (own_cap ho16).2 hn hE16).mono ?_); rintro e w17 ⟨A17, n17, c17, s17, B17, m17, d17, rfl, ho17, hr17, _, hb17⟩; have hz17 := hb17.size; (try simp at hz17)
  obtain rfl : n2 = n17 := ho2.len.symm.trans ho17.len
  obtain rfl : m2 = m17 := by have h1 := hr2.1; have h2 := hr17.1; simp only [List.length_map, Nat.mul_one] at h1 h2; omega
  have U17 : Below w.heap.size w w17 := b_trans U16 hb17
  have r17 := (r13.below hb16).below hb17
  have p17 := own_below (own_below p13 hb16) hb17
  have a17 := (a13.below hb16).below hb17
  have q17 := own_below (own_below q13 hb16) hb17
  go_wp2_with fail
  (with_reducible refine (eqIntSS_same A17 A2 n2 c17 c2 s17 s2 (fout xs) _ ho17.read r17.read (by omega) (by omega)).mono ?_); rintro e w18 ⟨rfl, hb18⟩; have hz18 := hb18.size; (try simp at hz18)
  go_wp2_with fail
  (with_reducible refine (eqIntS_any B17 B2 m2 m2 d17 d2 (frest xs) (frest xs) _ (Ints.of_own (own_below hr17 hb18)) (Ints.of_own (own_below p17 hb18)) (by omega) (by omega)).mono ?_); rintro e w19 ⟨rfl, hb19⟩; have hz19 := hb19.size; (try simp at hz19)
  have a19 := (a17.below hb18).below hb19
  have q19 := own_below (own_below q17 hb18) hb19
  go_wp2_with fail
  (with_reducible refine (heldIntSS_any A4 n2 c4 s4 (fout xs) 1 _ a19.read (by omega) (by omega) (by omega) (by omega)).mono ?_); rintro e w20 ⟨rfl, rfl⟩
  go_wp2_with fail
  (with_reducible refine (heldIntS_any B4 m2 d4 (1 + (tot (fout xs) : Int)) _ (Ints.of_own q19) (by omega) (by omega) (by omega)).mono ?_); rintro e w21 ⟨rfl, rfl⟩
  go_wp2
  go_ret
  exact ⟨rfl, b_trans (b_trans U17 hb18) hb19⟩
set_option maxHeartbeats 1000000 in
theorem FnExactPacketsFrom_calls (A : Option Addr) (n c : Nat) (xs : List Int) (w : World) (hx : Ints w A n xs) (hn0 : n ≤ 9223372036854775807) (hE : ErrT w) :
    Calls Tryd.prog 3 #[.slice A n c] w fun e w' => e = .returned (.bool true) ∧ Below w.heap.size w w' := by
  by_cases hn : n ≤ 1048576
  · exact FnExactPacketsFrom_small A n c xs w hx hn hE
  · have hn2 : (1048576 : Int) < n := by omega
    go_enter Tryd.func3, Tryd.ntmps3
    go_wp2
    go_ret
    exact ⟨rfl, b_refl _⟩
set_option maxRecDepth 100000 in
theorem FnExactPacketsFrom_lifted (os : Os) (started : os.Started) (H : Type) (enc : TypeId × Value → H) :
    ReturnsInHanded {} Tryd.checked os 3 .any (fun w args => (Rows.fnExactPacketsFromSpec.pre enc Tryd.prog Tryd.f3 [] false w args ∧ laidMetH Tryd.prog laidE w) ∧ sizedMet enc Tryd.prog Tryd.f3 (OpenSpec.ofChange Rows.fnExactPacketsFromSpec) false w args)
      (Rows.fnExactPacketsFromSpec.post enc Tryd.prog Tryd.f3 false true false false) := by
  refine returnsInHanded_of_change_and (C := Tryd.checked) (X := fun w _ => laidMetH Tryd.prog laidE w) (fun _ _ _ hh h => h.of_heap hh) own started (by kernel_rfl) Tryd.func3
    (ChangeSpec.witness_at (enc := enc) (C := Tryd.checked) (os := os) (X := fun w _ => laidMetH Tryd.prog laidE w) false (laidWorld os) #[.slice none 0 0] 8 rfl (by kernel_rfl) (by kernel_rfl) (by kernel_rfl) (by kernel_rfl) (by kernel_rfl) (laidWorld_met os _)) ?_
  intro W base args ds gs before hval0 hW _ _ hL _
  have hval : ∀ (j : Nat) t v, Tryd.f3.params[j]? = some t → args[j]? = some v → Value.okWide Tryd.prog W .any base t v := hval0
  have hW2 := hW
  obtain ⟨p, q, hA0, hV, rfl, _, _⟩ := hW2
  have hA : DataW.TrodAll enc Tryd.prog W 0 (fun _ => true) true Tryd.f3.params.toList args.toList ds p := hA0
  rw [Tryd.params3] at hA hval
  obtain ⟨v0, d0, rfl, rfl, h0⟩ := trodAll_one hA
  obtain ⟨rfl, rfl⟩ := trodVars_none hV
  obtain ⟨A1, n1, c1, xs, rfl, hx, _, hc1, hm1⟩ := open_row Tryd.underlying22 Tryd.underlying3 (by kernel_rfl) (hval 0 _ v0 rfl rfl) h0
  have hE := handle_of_laid hL
  refine (FnExactPacketsFrom_calls A1 n1 c1 xs W hx (by unfold maxLen at hm1; omega) hE).mono fun e W' ⟨he, hb⟩ => ?_
  subst he
  exact ⟨_, rfl, law_post (f := Tryd.f3) (s := Rows.fnExactPacketsFromSpec) 4 laid_out (by kernel_rfl) rfl (by kernel_rfl) Tryd.underlying4 hW rfl hb⟩
theorem FnExactPacketsFrom_row : Rows.FnExactPacketsFromSaid :=
  OpenClaim.holds_of_wide 3 Tryd.f3 rfl rfl rfl rfl rfl rfl rfl ⟨rfl, rfl, rfl, rfl, rfl⟩ rfl rfl rfl rfl rfl (by kernel_rfl) Tryd.func3 (by kernel_rfl)
    (of_decide_eq_true (by kernel_rfl)) (by unfold Func.isWrapper; rw [if_neg (of_decide_eq_false (by kernel_rfl))]; exact ⟨rfl, rfl⟩)
    (fun os started H enc _ => FnExactPacketsFrom_lifted os started H enc)
theorem FnExactPacketsFrom_holds : Rows.FnExactPacketsFromCardSaid :=
  Claim7.holds_tied_plain_at .later [] [.handle] true _ true
    FnExactPacketsFrom_row (fun _ h => by cases h) (by kernel_rfl) (fun _ h => by cases h) fnExactPacketsFrom_row_tie rfl ⟨rfl, rfl⟩ (by kernel_rfl) rfl
    (fun f fn hf hfn => by
      obtain rfl : f = 3 := Option.some.inj ((show Tryd.prog.funcNamed "loop.example/serialpair/laws.FnExactPacketsFrom" = some 3 by kernel_rfl).symm.trans hf) |>.symm
      obtain rfl : fn = Tryd.f3 := (Option.some.inj (Tryd.func3.symm.trans hfn)).symm
      exact ⟨by kernel_rfl, fun j t ht => by
        rw [Tryd.params3] at ht
        rcases j with _ | _ | j <;> simp at ht <;> subst ht <;> kernel_rfl⟩)
    (by kernel_rfl)

end Go.Proofs.YtoeajbnjenceaaaDoor

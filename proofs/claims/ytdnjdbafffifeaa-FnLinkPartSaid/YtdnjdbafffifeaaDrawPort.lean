/-
  THE DRAWS OF A PORT: l91Got, l91Recv, l91Send, l91Modem, l92Port: some port whose lists have at most 6 elements, in memory of its own.
-/
import Derived.Test.YtdnjdbafffifeaaPortV
import Derived.Test.YtdnjdbafffifeaaFormatDraw
import Derived.Test.YtdnjdbafffifeaaAppend
import Derived.Test.YtdnjdbafffifeaaGotS
set_option linter.unusedVariables false
set_option linter.unusedSimpArgs false
namespace Go.Proofs.Ytdnjdbafffifeaa
open Go.ChangeShapes Go.WideShapes Go.ChangeAt Go.RowKit

theorem own_setb {w : World} {base n size g : Nat} {e t : TypeId} {v : Value} {xs : List Value} {cs : Array Value} (h : w.ownsRow base e size v n xs) (hb : Blk w g t cs) (hne : e ≠ t) (i : Nat) (u : Value) : (w.setCell ⟨g, i, none⟩ u).ownsRow base e size v n xs :=
  h.kept (only_setCell (only_refl w (some g)) (.inl rfl) u) (.inr (own_blk_ne h hb hne))
theorem own_keptb {w w' : World} {base n size g : Nat} {e t : TypeId} {v : Value} {xs : List Value} {cs : Array Value} (h : w.ownsRow base e size v n xs) (hb : Blk w g t cs) (hne : e ≠ t) (hg : w.grownBy w' (some g)) : w'.ownsRow base e size v n xs :=
  h.kept hg (.inr (own_blk_ne h hb hne))
theorem Blk.grownb {w w' : World} {base n size g : Nat} {e t : TypeId} {v : Value} {xs : List Value} {cs : Array Value} (hb : Blk w g t cs) (h : w.ownsRow base e size v n xs) (hne : e ≠ t) (hg : w.grownBy w' v.ownBlock) : Blk w' g t cs :=
  hb.grown hg (fun he => own_blk_ne h hb hne he.symm)
set_option maxHeartbeats 2000000 in
theorem l91Got_any (rb p : Nat) (w : World) (h : RdU w rb p) (hp : p ≤ 4000000) :
    Calls Try.prog 85 #[.pointer (some ⟨rb, 0, none⟩)] w fun e w' => ∃ (x y : Int), e = .returned (.agg #[.int .i64 x, .int .i64 y]) ∧ RdU w' rb (p + 4) ∧ w.grownBy w' (some rb) := by
  have hlt := h.lt
  have hne : ¬ w.heap.size = rb := by omega
  go_enter Try.func85, Try.ntmps85
  go_wp2_with fail
  (with_reducible refine (pick_U rb (p) 256 _ ?_ (by omega) (by omega)).mono ?_); (exact (by repeat (first | (with_reducible refine RdU.up (by assumption) (by omega)) | (with_reducible refine Rd.up (by assumption) (by omega)) | (with_reducible refine RdU.up (RdB.u (by assumption)) (by omega)) | (with_reducible refine RdU.drew ?_) | (with_reducible refine RdU.drewN ?_ _) | (with_reducible refine RdU.alloc ?_ _) | (with_reducible refine RdU.setCell ?_ ?_ _) | (with_reducible refine RdU.below ?_ (by assumption)) | omega | (focus (simp; done)) | (focus (simp; omega))))); rintro e w1 ⟨v1, rfl, hv1, hu1, hr1, ho1⟩; have hz1 := ho1.size; (try simp at hz1); have R1 := (Blk.new _ _ _).grown ho1 (by first | omega | (simp; done) | (simp; omega)); have R1l := R1.lt; have R1c0 := R1.cell 0; have R1f0 := R1.frozen 0; have R1c1 := R1.cell 1; have R1f1 := R1.frozen 1; (try simp at R1c0 R1c1)
  go_wp2_with fail
  (with_reducible refine (pick_U rb (p + 1) 10 _ ?_ (by omega) (by omega)).mono ?_); (exact (by repeat (first | (with_reducible refine RdU.up (by assumption) (by omega)) | (with_reducible refine Rd.up (by assumption) (by omega)) | (with_reducible refine RdU.up (RdB.u (by assumption)) (by omega)) | (with_reducible refine RdU.drew ?_) | (with_reducible refine RdU.drewN ?_ _) | (with_reducible refine RdU.alloc ?_ _) | (with_reducible refine RdU.setCell ?_ ?_ _) | (with_reducible refine RdU.below ?_ (by assumption)) | omega | (focus (simp; done)) | (focus (simp; omega))))); rintro e w2 ⟨v2, rfl, hv2, hu2, hr2, ho2⟩; have hz2 := ho2.size; (try simp at hz2); have R2 := Blk.liftO R1 ho2 (by repeat (first | (with_reducible exact R1) | (with_reducible refine Blk.drew ?_) | (with_reducible refine Blk.drewN ?_ _) | (with_reducible refine Blk.alloc ?_ _) | (with_reducible refine Blk.far ?_ ?_ _) | omega | (focus (simp; done)) | (focus (simp; omega)))) (by first | omega | (simp; done) | (simp; omega)); have R2l := R2.lt; have R2c0 := R2.cell 0; have R2f0 := R2.frozen 0; have R2c1 := R2.cell 1; have R2f1 := R2.frozen 1; (try simp at R2c0 R2c1); have F2 := (Blk.new _ _ _).grown ho2 (by first | omega | (simp; done) | (simp; omega)); have F2l := F2.lt; have F2c0 := F2.cell 0; have F2f0 := F2.frozen 0; have F2c1 := F2.cell 1; have F2f1 := F2.frozen 1; (try simp at F2c0 F2c1)
  by_cases q0 : v2 = 0
  · subst q0
    go_wp2_with (first | (go_at_call_of 31 (Value.int IntKind.i64 40); go_must ((with_reducible refine (pick_U rb (p + 2) 40 _ ?_ (by omega) (by omega)).mono ?_); (exact (by repeat (first | (with_reducible refine RdU.up (by assumption) (by omega)) | (with_reducible refine Rd.up (by assumption) (by omega)) | (with_reducible refine RdU.up (RdB.u (by assumption)) (by omega)) | (with_reducible refine RdU.drew ?_) | (with_reducible refine RdU.drewN ?_ _) | (with_reducible refine RdU.alloc ?_ _) | (with_reducible refine RdU.setCell ?_ ?_ _) | (with_reducible refine RdU.below ?_ (by assumption)) | omega | (focus (simp; done)) | (focus (simp; omega))))); rintro e w3 ⟨v3, rfl, hv3, hu3, hr3, ho3⟩; have hz3 := ho3.size; (try simp at hz3); have R3 := Blk.liftO R2 ho3 (by repeat (first | (with_reducible exact R2) | (with_reducible refine Blk.drew ?_) | (with_reducible refine Blk.drewN ?_ _) | (with_reducible refine Blk.alloc ?_ _) | (with_reducible refine Blk.far ?_ ?_ _) | omega | (focus (simp; done)) | (focus (simp; omega)))) (by first | omega | (simp; done) | (simp; omega)); have R3l := R3.lt; have R3c0 := R3.cell 0; have R3f0 := R3.frozen 0; have R3c1 := R3.cell 1; have R3f1 := R3.frozen 1; (try simp at R3c0 R3c1); have F3 := (F2.set_ 1 _).grown ho3 (by first | omega | (simp; done) | (simp; omega)); have F3l := F3.lt; have F3c0 := F3.cell 0; have F3f0 := F3.frozen 0; have F3c1 := F3.cell 1; have F3f1 := F3.frozen 1; (try simp at F3c0 F3c1))) | (go_at_call_of 31 (Value.int IntKind.i64 2); go_must ((with_reducible refine (pick_U rb (p + 3) 2 _ ?_ (by omega) (by omega)).mono ?_); (exact (by repeat (first | (with_reducible refine RdU.up (by assumption) (by omega)) | (with_reducible refine Rd.up (by assumption) (by omega)) | (with_reducible refine RdU.up (RdB.u (by assumption)) (by omega)) | (with_reducible refine RdU.drew ?_) | (with_reducible refine RdU.drewN ?_ _) | (with_reducible refine RdU.alloc ?_ _) | (with_reducible refine RdU.setCell ?_ ?_ _) | (with_reducible refine RdU.below ?_ (by assumption)) | omega | (focus (simp; done)) | (focus (simp; omega))))); rintro e w4 ⟨v4, rfl, hv4, hu4, hr4, ho4⟩; have hz4 := ho4.size; (try simp at hz4); have R4 := Blk.liftO R3 ho4 (by repeat (first | (with_reducible exact R3) | (with_reducible refine Blk.drew ?_) | (with_reducible refine Blk.drewN ?_ _) | (with_reducible refine Blk.alloc ?_ _) | (with_reducible refine Blk.far ?_ ?_ _) | omega | (focus (simp; done)) | (focus (simp; omega)))) (by first | omega | (simp; done) | (simp; omega)); have R4l := R4.lt; have R4c0 := R4.cell 0; have R4f0 := R4.frozen 0; have R4c1 := R4.cell 1; have R4f1 := R4.frozen 1; (try simp at R4c0 R4c1); have F4 := Blk.liftO F3 ho4 (by repeat (first | (with_reducible exact F3) | (with_reducible refine Blk.drew ?_) | (with_reducible refine Blk.drewN ?_ _) | (with_reducible refine Blk.alloc ?_ _) | (with_reducible refine Blk.far ?_ ?_ _) | omega | (focus (simp; done)) | (focus (simp; omega)))) (by first | omega | (simp; done) | (simp; omega)); have F4l := F4.lt; have F4c0 := F4.cell 0; have F4f0 := F4.frozen 0; have F4c1 := F4.cell 1; have F4f1 := F4.frozen 1; (try simp at F4c0 F4c1); obtain ⟨x, hx, _⟩ := nth_of [-1, 3] ((Blk.new _ _ _).grown ho4 (by simp; omega)) hv4 hu4)))
    all_goals exact bodyPost_ret (by simp [results, Try.results85, go_sem, *]; repeat (first | exact rfl | refine And.intro ?_ ?_)) rfl ⟨_, _, rfl, (by repeat (first | (with_reducible refine RdU.up (by assumption) (by omega)) | (with_reducible refine Rd.up (by assumption) (by omega)) | (with_reducible refine RdU.up (RdB.u (by assumption)) (by omega)) | (with_reducible refine RdU.drew ?_) | (with_reducible refine RdU.drewN ?_ _) | (with_reducible refine RdU.alloc ?_ _) | (with_reducible refine RdU.setCell ?_ ?_ _) | (with_reducible refine RdU.below ?_ (by assumption)) | omega | (focus (simp; done)) | (focus (simp; omega)))), (by repeat (first | (with_reducible exact only_refl _ _) | (with_reducible refine only_drew ?_) | (with_reducible refine only_drewN ?_ _) | (with_reducible refine only_alloc ?_ _) | (with_reducible refine only_setCell ?_ (.inl rfl) _) | (with_reducible refine only_setCell ?_ (.inr ?_) _) | (with_reducible refine only_below ?_ (by assumption)) | (with_reducible refine only_trans ?_ (by assumption)) | omega | (focus (simp; done)) | (focus (simp; omega))))⟩
  by_cases q1 : v2 = 1
  · subst q1
    go_wp2_with (first | (go_at_call_of 31 (Value.int IntKind.i64 40); go_must ((with_reducible refine (pick_U rb (p + 2) 40 _ ?_ (by omega) (by omega)).mono ?_); (exact (by repeat (first | (with_reducible refine RdU.up (by assumption) (by omega)) | (with_reducible refine Rd.up (by assumption) (by omega)) | (with_reducible refine RdU.up (RdB.u (by assumption)) (by omega)) | (with_reducible refine RdU.drew ?_) | (with_reducible refine RdU.drewN ?_ _) | (with_reducible refine RdU.alloc ?_ _) | (with_reducible refine RdU.setCell ?_ ?_ _) | (with_reducible refine RdU.below ?_ (by assumption)) | omega | (focus (simp; done)) | (focus (simp; omega))))); rintro e w3 ⟨v3, rfl, hv3, hu3, hr3, ho3⟩; have hz3 := ho3.size; (try simp at hz3); have R3 := Blk.liftO R2 ho3 (by repeat (first | (with_reducible exact R2) | (with_reducible refine Blk.drew ?_) | (with_reducible refine Blk.drewN ?_ _) | (with_reducible refine Blk.alloc ?_ _) | (with_reducible refine Blk.far ?_ ?_ _) | omega | (focus (simp; done)) | (focus (simp; omega)))) (by first | omega | (simp; done) | (simp; omega)); have R3l := R3.lt; have R3c0 := R3.cell 0; have R3f0 := R3.frozen 0; have R3c1 := R3.cell 1; have R3f1 := R3.frozen 1; (try simp at R3c0 R3c1); have F3 := (F2.set_ 1 _).grown ho3 (by first | omega | (simp; done) | (simp; omega)); have F3l := F3.lt; have F3c0 := F3.cell 0; have F3f0 := F3.frozen 0; have F3c1 := F3.cell 1; have F3f1 := F3.frozen 1; (try simp at F3c0 F3c1))) | (go_at_call_of 31 (Value.int IntKind.i64 2); go_must ((with_reducible refine (pick_U rb (p + 3) 2 _ ?_ (by omega) (by omega)).mono ?_); (exact (by repeat (first | (with_reducible refine RdU.up (by assumption) (by omega)) | (with_reducible refine Rd.up (by assumption) (by omega)) | (with_reducible refine RdU.up (RdB.u (by assumption)) (by omega)) | (with_reducible refine RdU.drew ?_) | (with_reducible refine RdU.drewN ?_ _) | (with_reducible refine RdU.alloc ?_ _) | (with_reducible refine RdU.setCell ?_ ?_ _) | (with_reducible refine RdU.below ?_ (by assumption)) | omega | (focus (simp; done)) | (focus (simp; omega))))); rintro e w4 ⟨v4, rfl, hv4, hu4, hr4, ho4⟩; have hz4 := ho4.size; (try simp at hz4); have R4 := Blk.liftO R3 ho4 (by repeat (first | (with_reducible exact R3) | (with_reducible refine Blk.drew ?_) | (with_reducible refine Blk.drewN ?_ _) | (with_reducible refine Blk.alloc ?_ _) | (with_reducible refine Blk.far ?_ ?_ _) | omega | (focus (simp; done)) | (focus (simp; omega)))) (by first | omega | (simp; done) | (simp; omega)); have R4l := R4.lt; have R4c0 := R4.cell 0; have R4f0 := R4.frozen 0; have R4c1 := R4.cell 1; have R4f1 := R4.frozen 1; (try simp at R4c0 R4c1); have F4 := Blk.liftO F3 ho4 (by repeat (first | (with_reducible exact F3) | (with_reducible refine Blk.drew ?_) | (with_reducible refine Blk.drewN ?_ _) | (with_reducible refine Blk.alloc ?_ _) | (with_reducible refine Blk.far ?_ ?_ _) | omega | (focus (simp; done)) | (focus (simp; omega)))) (by first | omega | (simp; done) | (simp; omega)); have F4l := F4.lt; have F4c0 := F4.cell 0; have F4f0 := F4.frozen 0; have F4c1 := F4.cell 1; have F4f1 := F4.frozen 1; (try simp at F4c0 F4c1); obtain ⟨x, hx, _⟩ := nth_of [-1, 3] ((Blk.new _ _ _).grown ho4 (by simp; omega)) hv4 hu4)))
    all_goals exact bodyPost_ret (by simp [results, Try.results85, go_sem, *]; repeat (first | exact rfl | refine And.intro ?_ ?_)) rfl ⟨_, _, rfl, (by repeat (first | (with_reducible refine RdU.up (by assumption) (by omega)) | (with_reducible refine Rd.up (by assumption) (by omega)) | (with_reducible refine RdU.up (RdB.u (by assumption)) (by omega)) | (with_reducible refine RdU.drew ?_) | (with_reducible refine RdU.drewN ?_ _) | (with_reducible refine RdU.alloc ?_ _) | (with_reducible refine RdU.setCell ?_ ?_ _) | (with_reducible refine RdU.below ?_ (by assumption)) | omega | (focus (simp; done)) | (focus (simp; omega)))), (by repeat (first | (with_reducible exact only_refl _ _) | (with_reducible refine only_drew ?_) | (with_reducible refine only_drewN ?_ _) | (with_reducible refine only_alloc ?_ _) | (with_reducible refine only_setCell ?_ (.inl rfl) _) | (with_reducible refine only_setCell ?_ (.inr ?_) _) | (with_reducible refine only_below ?_ (by assumption)) | (with_reducible refine only_trans ?_ (by assumption)) | omega | (focus (simp; done)) | (focus (simp; omega))))⟩
  have z0 : (v2 == 0) = false := by simpa using q0
  have z1 : (v2 == 1) = false := by simpa using q1
  go_wp2_with (first | (go_at_call_of 31 (Value.int IntKind.i64 40); go_must ((with_reducible refine (pick_U rb (p + 2) 40 _ ?_ (by omega) (by omega)).mono ?_); (exact (by repeat (first | (with_reducible refine RdU.up (by assumption) (by omega)) | (with_reducible refine Rd.up (by assumption) (by omega)) | (with_reducible refine RdU.up (RdB.u (by assumption)) (by omega)) | (with_reducible refine RdU.drew ?_) | (with_reducible refine RdU.drewN ?_ _) | (with_reducible refine RdU.alloc ?_ _) | (with_reducible refine RdU.setCell ?_ ?_ _) | (with_reducible refine RdU.below ?_ (by assumption)) | omega | (focus (simp; done)) | (focus (simp; omega))))); rintro e w3 ⟨v3, rfl, hv3, hu3, hr3, ho3⟩; have hz3 := ho3.size; (try simp at hz3); have R3 := Blk.liftO R2 ho3 (by repeat (first | (with_reducible exact R2) | (with_reducible refine Blk.drew ?_) | (with_reducible refine Blk.drewN ?_ _) | (with_reducible refine Blk.alloc ?_ _) | (with_reducible refine Blk.far ?_ ?_ _) | omega | (focus (simp; done)) | (focus (simp; omega)))) (by first | omega | (simp; done) | (simp; omega)); have R3l := R3.lt; have R3c0 := R3.cell 0; have R3f0 := R3.frozen 0; have R3c1 := R3.cell 1; have R3f1 := R3.frozen 1; (try simp at R3c0 R3c1); have F3 := Blk.liftO F2 ho3 (by repeat (first | (with_reducible exact F2) | (with_reducible refine Blk.drew ?_) | (with_reducible refine Blk.drewN ?_ _) | (with_reducible refine Blk.alloc ?_ _) | (with_reducible refine Blk.far ?_ ?_ _) | omega | (focus (simp; done)) | (focus (simp; omega)))) (by first | omega | (simp; done) | (simp; omega)); have F3l := F3.lt; have F3c0 := F3.cell 0; have F3f0 := F3.frozen 0; have F3c1 := F3.cell 1; have F3f1 := F3.frozen 1; (try simp at F3c0 F3c1))) | (go_at_call_of 31 (Value.int IntKind.i64 2); go_must ((with_reducible refine (pick_U rb (p + 3) 2 _ ?_ (by omega) (by omega)).mono ?_); (exact (by repeat (first | (with_reducible refine RdU.up (by assumption) (by omega)) | (with_reducible refine Rd.up (by assumption) (by omega)) | (with_reducible refine RdU.up (RdB.u (by assumption)) (by omega)) | (with_reducible refine RdU.drew ?_) | (with_reducible refine RdU.drewN ?_ _) | (with_reducible refine RdU.alloc ?_ _) | (with_reducible refine RdU.setCell ?_ ?_ _) | (with_reducible refine RdU.below ?_ (by assumption)) | omega | (focus (simp; done)) | (focus (simp; omega))))); rintro e w4 ⟨v4, rfl, hv4, hu4, hr4, ho4⟩; have hz4 := ho4.size; (try simp at hz4); have R4 := Blk.liftO R3 ho4 (by repeat (first | (with_reducible exact R3) | (with_reducible refine Blk.drew ?_) | (with_reducible refine Blk.drewN ?_ _) | (with_reducible refine Blk.alloc ?_ _) | (with_reducible refine Blk.far ?_ ?_ _) | omega | (focus (simp; done)) | (focus (simp; omega)))) (by first | omega | (simp; done) | (simp; omega)); have R4l := R4.lt; have R4c0 := R4.cell 0; have R4f0 := R4.frozen 0; have R4c1 := R4.cell 1; have R4f1 := R4.frozen 1; (try simp at R4c0 R4c1); have F4 := Blk.liftO F3 ho4 (by repeat (first | (with_reducible exact F3) | (with_reducible refine Blk.drew ?_) | (with_reducible refine Blk.drewN ?_ _) | (with_reducible refine Blk.alloc ?_ _) | (with_reducible refine Blk.far ?_ ?_ _) | omega | (focus (simp; done)) | (focus (simp; omega)))) (by first | omega | (simp; done) | (simp; omega)); have F4l := F4.lt; have F4c0 := F4.cell 0; have F4f0 := F4.frozen 0; have F4c1 := F4.cell 1; have F4f1 := F4.frozen 1; (try simp at F4c0 F4c1); obtain ⟨x, hx, _⟩ := nth_of [-1, 3] ((Blk.new _ _ _).grown ho4 (by simp; omega)) hv4 hu4)))
  all_goals exact bodyPost_ret (by simp [results, Try.results85, go_sem, *]; repeat (first | exact rfl | refine And.intro ?_ ?_)) rfl ⟨_, _, rfl, (by repeat (first | (with_reducible refine RdU.up (by assumption) (by omega)) | (with_reducible refine Rd.up (by assumption) (by omega)) | (with_reducible refine RdU.up (RdB.u (by assumption)) (by omega)) | (with_reducible refine RdU.drew ?_) | (with_reducible refine RdU.drewN ?_ _) | (with_reducible refine RdU.alloc ?_ _) | (with_reducible refine RdU.setCell ?_ ?_ _) | (with_reducible refine RdU.below ?_ (by assumption)) | omega | (focus (simp; done)) | (focus (simp; omega)))), (by repeat (first | (with_reducible exact only_refl _ _) | (with_reducible refine only_drew ?_) | (with_reducible refine only_drewN ?_ _) | (with_reducible refine only_alloc ?_ _) | (with_reducible refine only_setCell ?_ (.inl rfl) _) | (with_reducible refine only_setCell ?_ (.inr ?_) _) | (with_reducible refine only_below ?_ (by assumption)) | (with_reducible refine only_trans ?_ (by assumption)) | omega | (focus (simp; done)) | (focus (simp; omega))))⟩
set_option maxHeartbeats 4000000 in
theorem l91Send_any (rb p : Nat) (w : World) (h : RdU w rb p) (hp : p ≤ 3000000) :
    Calls Try.prog 72 #[.pointer (some ⟨rb, 0, none⟩)] w fun e w' => ∃ (sr sh sl : Int) (SA : Option Addr) (sn sc : Nat) (xs : List Int), e = .returned (.agg #[.int .i64 sr, .slice SA sn sc, .int .i64 sh, .int .i64 sl]) ∧ w'.ownsRow w.heap.size 3 1 (.slice SA sn sc) sn (xs.map (Value.int .i64)) ∧ sn ≤ 6 ∧ RdU w' rb (p + 20) ∧ w.grownBy w' (some rb) := by
  have hlt := h.lt
  have hne : ¬ w.heap.size = rb := by omega
  go_enter Try.func72, Try.ntmps72
  go_wp2_with fail
  (with_reducible refine (pick_U rb (p) 6 _ ?_ (by omega) (by omega)).mono ?_); (exact (by repeat (first | (with_reducible refine RdU.up (by assumption) (by omega)) | (with_reducible refine Rd.up (by assumption) (by omega)) | (with_reducible refine RdU.up (RdB.u (by assumption)) (by omega)) | (with_reducible refine RdU.drew ?_) | (with_reducible refine RdU.drewN ?_ _) | (with_reducible refine RdU.alloc ?_ _) | (with_reducible refine RdU.setCell ?_ ?_ _) | (with_reducible refine RdU.below ?_ (by assumption)) | omega | (focus (simp; done)) | (focus (simp; omega))))); rintro e w1 ⟨v1, rfl, hv1, hu1, hr1, ho1⟩; have hz1 := ho1.size; (try simp at hz1); have R1 := (Blk.new _ _ _).grown ho1 (by first | omega | (simp; done) | (simp; omega)); (try simp only [World.size_alloc, List.setIfInBounds_toArray, List.set_cons_zero, List.set_cons_succ] at R1); have R1l := R1.lt; (try simp only [World.size_alloc] at R1l)
  have e1 := own_empty w1 (w.heap.size + 1) (by omega)
  go_wp2_with ((with_reducible refine at_store 44 (.tmp 3) (.tmp 10) rfl ?_); go_must (refine wpList_storeB (g := w1.heap.size + 1) (t := 44) (cs := #[.int .i64 0, .slice none 0 0, .int .i64 0, .int .i64 0]) (by repeat (first | (with_reducible exact (Blk.new1 w1 _ _ _)) | (with_reducible refine Blk.drew ?_) | (with_reducible refine Blk.drewN ?_ _) | (with_reducible refine Blk.alloc ?_ _) | (with_reducible refine Blk.far ?_ ?_ _) | omega | (focus (simp; done)) | (focus (simp; omega)))) 44 (.tmp 3) (.tmp 10) rfl (by rfl) 0 rfl [.int .i64 (1 + v1), .slice (some ⟨w1.heap.size, 0, none⟩) 0 0, .int .i64 (-1), .int .i64 0] rfl sz_impl_Sender rfl (by simp) [.int .i64 (1 + v1), .slice (some ⟨w1.heap.size, 0, none⟩) 0 0, .int .i64 (-1), .int .i64 0] rfl ?_; intro w2 N2 ho2; have hz2 := ho2.size; (try simp at hz2); have R2 := Blk.liftO R1 ho2 (by repeat (first | (with_reducible exact R1) | (with_reducible refine Blk.drew ?_) | (with_reducible refine Blk.drewN ?_ _) | (with_reducible refine Blk.alloc ?_ _) | (with_reducible refine Blk.far ?_ ?_ _) | omega | (focus (simp; done)) | (focus (simp; omega)))) (by first | omega | (simp; done) | (simp; omega)); (try simp only [World.size_alloc, List.setIfInBounds_toArray, List.set_cons_zero, List.set_cons_succ] at R2); have R2l := R2.lt; (try simp only [World.size_alloc] at R2l); have X2 := N2; (try simp only [World.size_alloc, List.setIfInBounds_toArray, List.set_cons_zero, List.set_cons_succ] at X2); have X2l := X2.lt; (try simp only [World.size_alloc] at X2l); have X2c0 := X2.cellv 0 rfl; have X2c1 := X2.cellv 1 rfl; have X2c2 := X2.cellv 2 rfl; have X2c3 := X2.cellv 3 rfl))
  have own2 := (e1.alloc _).kept ho2 (.inr (by simp [Value.ownBlock]))
  have r2 : RdU w2 rb (p + 1) := (hr1.alloc _ |>.alloc _).grown ho2 (fun g hg => by injection hg; omega)
  have g2 : w.grownBy w2 (some rb) := only_own (only_alloc (only_alloc (only_trans (only_alloc (only_refl _ _) _) ho1) _) _) ho2 (fun g hg => .inr (by injection hg; omega))
  go_wp2_with fail
  (with_reducible refine (pick_U rb (p + 1) (1 + v1 + 1) _ ?_ (by omega) (by omega)).mono ?_); (exact (by repeat (first | (with_reducible refine RdU.up (by assumption) (by omega)) | (with_reducible refine Rd.up (by assumption) (by omega)) | (with_reducible refine RdU.up (RdB.u (by assumption)) (by omega)) | (with_reducible refine RdU.drew ?_) | (with_reducible refine RdU.drewN ?_ _) | (with_reducible refine RdU.alloc ?_ _) | (with_reducible refine RdU.setCell ?_ ?_ _) | (with_reducible refine RdU.below ?_ (by assumption)) | omega | (focus (simp; done)) | (focus (simp; omega))))); rintro e w3 ⟨v3, rfl, hv3, hu3, hr3, ho3⟩; have hz3 := ho3.size; (try simp at hz3); have R3 := Blk.liftO R2 ho3 (by repeat (first | (with_reducible exact R2) | (with_reducible refine Blk.drew ?_) | (with_reducible refine Blk.drewN ?_ _) | (with_reducible refine Blk.alloc ?_ _) | (with_reducible refine Blk.far ?_ ?_ _) | omega | (focus (simp; done)) | (focus (simp; omega)))) (by first | omega | (simp; done) | (simp; omega)); (try simp only [World.size_alloc, List.setIfInBounds_toArray, List.set_cons_zero, List.set_cons_succ] at R3); have R3l := R3.lt; (try simp only [World.size_alloc] at R3l); have X3 := Blk.liftO X2 ho3 (by repeat (first | (with_reducible exact X2) | (with_reducible refine Blk.drew ?_) | (with_reducible refine Blk.drewN ?_ _) | (with_reducible refine Blk.alloc ?_ _) | (with_reducible refine Blk.far ?_ ?_ _) | omega | (focus (simp; done)) | (focus (simp; omega)))) (by first | omega | (simp; done) | (simp; omega)); (try simp only [World.size_alloc, List.setIfInBounds_toArray, List.set_cons_zero, List.set_cons_succ] at X3); have X3l := X3.lt; (try simp only [World.size_alloc] at X3l); have X3c0 := X3.cellv 0 rfl; have X3c1 := X3.cellv 1 rfl; have X3c2 := X3.cellv 2 rfl; have X3c3 := X3.cellv 3 rfl; have X3f0 := X3.frozen 0; have X3f1 := X3.frozen 1; have X3f2 := X3.frozen 2; have X3f3 := X3.frozen 3
  have own3 := own_only own2 ho3 (by omega)
  have g3 : w.grownBy w3 (some rb) := only_trans g2 ho3
  obtain ⟨N, rfl⟩ := Int.eq_ofNat_of_zero_le hv3
  have hN : N ≤ 6 := by omega
  generalize hroom : (1 + v1 : Int) = room at *
  clear hv3 hu3 hroom own2 r2 g2 ho3 ho2 ho1 e1 hr1 X2 R2 N2 R1 hv1 hu1
  go_wp2
  go_loopw [5] (fun i wr => ∃ (k : Nat) (A : Option Addr) (c : Nat) (ys : List Int), k ≤ N ∧ i = .int .i64 k ∧ Blk wr w.heap.size 44 #[.int .i64 0, .slice none 0 0, .int .i64 0, .int .i64 0] ∧ Blk wr (w1.heap.size + 1) 44 #[.int .i64 room, .slice A k c, .int .i64 (-1), .int .i64 0] ∧ wr.ownsRow (w.heap.size + 1) 3 1 (.slice A k c) k (ys.map (Value.int .i64)) ∧ RdU wr rb (p + 2 + k) ∧ w.grownBy wr (some rb)) (fun i _ => N - (intOf i).toNat)
  case atStart => exact ⟨0, _, 0, [], Nat.zero_le _, rfl, R3, X3, own3, hr3, g3⟩
  case round =>
    clear R3 X3 own3 hr3 g3 X3c0 X3c1 X3c2 X3c3 X3f0 X3f1 X3f2 X3f3 X3l R3l
    obtain ⟨k, A, c, ys, hk, rfl, hR, hX, hown, hr, hg⟩ := hrel
    have x1 := hX.cellv 1 rfl
    have hRl := hR.lt
    have hXl := hX.lt
    by_cases hlt2 : k < N
    · go_wp2
      refine wp_region_any (by kernel_rfl) ?_
      change wpAny _ _ _ _ _ _ _ (World.drew _)
      refine wpAny_take (i := 0) (v := ?_) rfl (by kernel_rfl) (by kernel_rfl) (by kernel_rfl) (fun _ _ _ h => h) (Or.inl ⟨by rfl, ?_⟩) ?_
      rotate_left 1
      · (intro w; first | (go_simp; done) | (go_simp; with_reducible rfl))
      refine wpAny_take (i := 2) (v := ?_) rfl (by kernel_rfl) (by kernel_rfl) (by kernel_rfl) (fun _ _ _ h => h) (Or.inl ⟨by rfl, ?_⟩) ?_
      rotate_left 1
      · (intro w; first | (go_simp; done) | (go_simp; with_reducible rfl))
      refine wpAny_ready (rs := [1, 3]) (by kernel_rfl) (by simp) ?_
      refine AllReady.cons rfl (fun K hK => ?_) ?_
      · go_simp
        refine hK _ _ ?_
        refine wpAny_ready (rs := [3]) (by kernel_rfl) (by simp) ?_
        refine AllReady.cons rfl (fun K hK => ?_) AllReady.nil
        go_simp
        (with_reducible refine (pick_U rb (p + 2 + k) 256 _ ?_ (by omega) (by omega)).mono ?_); (exact (by repeat (first | (with_reducible refine RdU.up (by assumption) (by omega)) | (with_reducible refine Rd.up (by assumption) (by omega)) | (with_reducible refine RdU.up (RdB.u (by assumption)) (by omega)) | (with_reducible refine RdU.drew ?_) | (with_reducible refine RdU.drewN ?_ _) | (with_reducible refine RdU.alloc ?_ _) | (with_reducible refine RdU.setCell ?_ ?_ _) | (with_reducible refine RdU.below ?_ (by assumption)) | omega | (focus (simp; done)) | (focus (simp; omega))))); rintro e w5 ⟨v5, rfl, hv5, hu5, hr5, ho5⟩
        have X5 := hX.drew.grown ho5 (by simp; omega)
        have own5 := own_only (World.ownsRow.drew hown) ho5 (by omega)
        have R5 := hR.drew.grown ho5 (by simp; omega)
        have x5 := X5.cellv 1 rfl
        have X5l := X5.lt
        go_wp2
        refine wpAny_ready (rs := [4]) (by kernel_rfl) (by simp) ?_
        refine AllReady.cons rfl (fun K hK => ?_) AllReady.nil
        go_simp
        refine hK _ _ ?_
        refine wpAny_ready (rs := [5]) (by kernel_rfl) (by simp) ?_
        refine AllReady.cons rfl (fun K hK => ?_) AllReady.nil
        refine step_app (own5.alloc _) (Ints.lit [v5] (Blk.new _ _ _)) rfl (.tmp 22) (.tmp 25) rfl rfl rfl (k + 1) rfl (by omega) (by simp; omega) ?_; intro A6 c6 w6 own6 ho6 hat6 hc6 hd6
        have X6 := (X5.alloc _).grownb (own5.alloc _) (by decide) ho6
        have R6 := (R5.alloc _).grownb (own5.alloc _) (by decide) ho6
        have r6 := (hr5.alloc _).grown ho6 (fun g hg => by have := (own5.lt g hg).1; omega)
        have g6 := only_own (only_alloc (only_trans (only_drew hg) ho5) _) ho6 (fun g hg => .inr (by have := (own5.lt g hg).1; omega))
        have x6 := X6.cellv 1 rfl
        have f6 := X6.frozen 1
        refine hK _ _ ?_
        refine wpAny_ready (rs := [6]) (by kernel_rfl) (by simp) ?_
        refine AllReady.cons rfl (fun K hK => ?_) AllReady.nil
        go_simp
        refine hK _ _ ?_
        refine wpAny_ready (rs := [7]) (by kernel_rfl) (by simp) ?_
        refine AllReady.cons rfl (fun K hK => ?_) AllReady.nil
        go_simp
        refine hK _ _ ?_
        refine wpAny_done (by kernel_rfl) ?_ _
        go_wp2
        go_roundw
        case rel => exact ⟨k + 1, A6, c6, ys ++ [v5], by omega, by go_num, R6.far (by simp; omega) _, Blk.to2 (X6.set_ 1 _) (by simp), own_setb own6 X6 (by decide) 1 _, (r6.setCell (by simp; omega) _).up (by omega), only_setCell g6 (.inr (by simp; omega)) _⟩
        case measure => simp [intOf]; omega
      refine AllReady.cons rfl (fun K hK => ?_) AllReady.nil
      go_simp
      (with_reducible refine (pick_U rb (p + 2 + k) 256 _ ?_ (by omega) (by omega)).mono ?_); (exact (by repeat (first | (with_reducible refine RdU.up (by assumption) (by omega)) | (with_reducible refine Rd.up (by assumption) (by omega)) | (with_reducible refine RdU.up (RdB.u (by assumption)) (by omega)) | (with_reducible refine RdU.drew ?_) | (with_reducible refine RdU.drewN ?_ _) | (with_reducible refine RdU.alloc ?_ _) | (with_reducible refine RdU.setCell ?_ ?_ _) | (with_reducible refine RdU.below ?_ (by assumption)) | omega | (focus (simp; done)) | (focus (simp; omega))))); rintro e w5 ⟨v5, rfl, hv5, hu5, hr5, ho5⟩
      have X5 := hX.drew.grown ho5 (by simp; omega)
      have own5 := own_only (World.ownsRow.drew hown) ho5 (by omega)
      have R5 := hR.drew.grown ho5 (by simp; omega)
      have x5 := X5.cellv 1 rfl
      have X5l := X5.lt
      go_wp2
      refine wpAny_ready (rs := [1, 4]) (by kernel_rfl) (by simp) ?_
      refine AllReady.cons rfl (fun K hK => ?_) ?_
      · go_simp
        refine hK _ _ ?_
        refine wpAny_ready (rs := [4]) (by kernel_rfl) (by simp) ?_
        refine AllReady.cons rfl (fun K hK => ?_) AllReady.nil
        go_simp
        refine hK _ _ ?_
        refine wpAny_ready (rs := [5]) (by kernel_rfl) (by simp) ?_
        refine AllReady.cons rfl (fun K hK => ?_) AllReady.nil
        refine step_app (own5.alloc _) (Ints.lit [v5] (Blk.new _ _ _)) rfl (.tmp 22) (.tmp 25) rfl rfl rfl (k + 1) rfl (by omega) (by simp; omega) ?_; intro A6 c6 w6 own6 ho6 hat6 hc6 hd6
        have X6 := (X5.alloc _).grownb (own5.alloc _) (by decide) ho6
        have R6 := (R5.alloc _).grownb (own5.alloc _) (by decide) ho6
        have r6 := (hr5.alloc _).grown ho6 (fun g hg => by have := (own5.lt g hg).1; omega)
        have g6 := only_own (only_alloc (only_trans (only_drew hg) ho5) _) ho6 (fun g hg => .inr (by have := (own5.lt g hg).1; omega))
        have x6 := X6.cellv 1 rfl
        have f6 := X6.frozen 1
        refine hK _ _ ?_
        refine wpAny_ready (rs := [6]) (by kernel_rfl) (by simp) ?_
        refine AllReady.cons rfl (fun K hK => ?_) AllReady.nil
        go_simp
        refine hK _ _ ?_
        refine wpAny_ready (rs := [7]) (by kernel_rfl) (by simp) ?_
        refine AllReady.cons rfl (fun K hK => ?_) AllReady.nil
        go_simp
        refine hK _ _ ?_
        refine wpAny_done (by kernel_rfl) ?_ _
        go_wp2
        go_roundw
        case rel => exact ⟨k + 1, A6, c6, ys ++ [v5], by omega, by go_num, R6.far (by simp; omega) _, Blk.to2 (X6.set_ 1 _) (by simp), own_setb own6 X6 (by decide) 1 _, (r6.setCell (by simp; omega) _).up (by omega), only_setCell g6 (.inr (by simp; omega)) _⟩
        case measure => simp [intOf]; omega
      refine AllReady.cons rfl (fun K hK => ?_) AllReady.nil
      go_simp
      refine hK _ _ ?_
      refine wpAny_ready (rs := [1]) (by kernel_rfl) (by simp) ?_
      refine AllReady.cons rfl (fun K hK => ?_) AllReady.nil
      go_simp
      refine hK _ _ ?_
      refine wpAny_ready (rs := [5]) (by kernel_rfl) (by simp) ?_
      refine AllReady.cons rfl (fun K hK => ?_) AllReady.nil
      refine step_app (own5.alloc _) (Ints.lit [v5] (Blk.new _ _ _)) rfl (.tmp 22) (.tmp 25) rfl rfl rfl (k + 1) rfl (by omega) (by simp; omega) ?_; intro A6 c6 w6 own6 ho6 hat6 hc6 hd6
      have X6 := (X5.alloc _).grownb (own5.alloc _) (by decide) ho6
      have R6 := (R5.alloc _).grownb (own5.alloc _) (by decide) ho6
      have r6 := (hr5.alloc _).grown ho6 (fun g hg => by have := (own5.lt g hg).1; omega)
      have g6 := only_own (only_alloc (only_trans (only_drew hg) ho5) _) ho6 (fun g hg => .inr (by have := (own5.lt g hg).1; omega))
      have x6 := X6.cellv 1 rfl
      have f6 := X6.frozen 1
      refine hK _ _ ?_
      refine wpAny_ready (rs := [6]) (by kernel_rfl) (by simp) ?_
      refine AllReady.cons rfl (fun K hK => ?_) AllReady.nil
      go_simp
      refine hK _ _ ?_
      refine wpAny_ready (rs := [7]) (by kernel_rfl) (by simp) ?_
      refine AllReady.cons rfl (fun K hK => ?_) AllReady.nil
      go_simp
      refine hK _ _ ?_
      refine wpAny_done (by kernel_rfl) ?_ _
      go_wp2
      go_roundw
      case rel => exact ⟨k + 1, A6, c6, ys ++ [v5], by omega, by go_num, R6.far (by simp; omega) _, Blk.to2 (X6.set_ 1 _) (by simp), own_setb own6 X6 (by decide) 1 _, (r6.setCell (by simp; omega) _).up (by omega), only_setCell g6 (.inr (by simp; omega)) _⟩
      case measure => simp [intOf]; omega
    · obtain rfl : k = N := by omega
      go_wp2_with fail
      (with_reducible refine (pick_U rb (p + 2 + k) 2 _ ?_ (by omega) (by omega)).mono ?_); (exact (by repeat (first | (with_reducible refine RdU.up (by assumption) (by omega)) | (with_reducible refine Rd.up (by assumption) (by omega)) | (with_reducible refine RdU.up (RdB.u (by assumption)) (by omega)) | (with_reducible refine RdU.drew ?_) | (with_reducible refine RdU.drewN ?_ _) | (with_reducible refine RdU.alloc ?_ _) | (with_reducible refine RdU.setCell ?_ ?_ _) | (with_reducible refine RdU.below ?_ (by assumption)) | omega | (focus (simp; done)) | (focus (simp; omega))))); rintro e w7 ⟨v7, rfl, hv7, hu7, hr7, ho7⟩; have hz7 := ho7.size; (try simp at hz7); have R7 := Blk.liftO hR ho7 (by repeat (first | (with_reducible exact hR) | (with_reducible refine Blk.drew ?_) | (with_reducible refine Blk.drewN ?_ _) | (with_reducible refine Blk.alloc ?_ _) | (with_reducible refine Blk.far ?_ ?_ _) | omega | (focus (simp; done)) | (focus (simp; omega)))) (by first | omega | (simp; done) | (simp; omega)); (try simp only [World.size_alloc, List.setIfInBounds_toArray, List.set_cons_zero, List.set_cons_succ] at R7); have R7l := R7.lt; (try simp only [World.size_alloc] at R7l); have R7c0 := R7.cellv 0 rfl; have R7c1 := R7.cellv 1 rfl; have R7c2 := R7.cellv 2 rfl; have R7c3 := R7.cellv 3 rfl; have R7f0 := R7.frozen 0; have R7f1 := R7.frozen 1; have R7f2 := R7.frozen 2; have R7f3 := R7.frozen 3; have X7 := Blk.liftO hX ho7 (by repeat (first | (with_reducible exact hX) | (with_reducible refine Blk.drew ?_) | (with_reducible refine Blk.drewN ?_ _) | (with_reducible refine Blk.alloc ?_ _) | (with_reducible refine Blk.far ?_ ?_ _) | omega | (focus (simp; done)) | (focus (simp; omega)))) (by first | omega | (simp; done) | (simp; omega)); (try simp only [World.size_alloc, List.setIfInBounds_toArray, List.set_cons_zero, List.set_cons_succ] at X7); have X7l := X7.lt; (try simp only [World.size_alloc] at X7l); have X7c0 := X7.cellv 0 rfl; have X7c1 := X7.cellv 1 rfl; have X7c2 := X7.cellv 2 rfl; have X7c3 := X7.cellv 3 rfl; have X7f0 := X7.frozen 0; have X7f1 := X7.frozen 1; have X7f2 := X7.frozen 2; have X7f3 := X7.frozen 3
      have own7 := own_only hown ho7 (by omega)
      have g7 := only_trans hg ho7
      by_cases q7 : v7 = 0
      · subst q7
        go_wp2_with fail
        (with_reducible refine (pick_U rb (p + 2 + k + 1) 256 _ ?_ (by omega) (by omega)).mono ?_); (exact (by repeat (first | (with_reducible refine RdU.up (by assumption) (by omega)) | (with_reducible refine Rd.up (by assumption) (by omega)) | (with_reducible refine RdU.up (RdB.u (by assumption)) (by omega)) | (with_reducible refine RdU.drew ?_) | (with_reducible refine RdU.drewN ?_ _) | (with_reducible refine RdU.alloc ?_ _) | (with_reducible refine RdU.setCell ?_ ?_ _) | (with_reducible refine RdU.below ?_ (by assumption)) | omega | (focus (simp; done)) | (focus (simp; omega))))); rintro e w8 ⟨v8, rfl, hv8, hu8, hr8, ho8⟩; have hz8 := ho8.size; (try simp at hz8); have R8 := Blk.liftO R7 ho8 (by repeat (first | (with_reducible exact R7) | (with_reducible refine Blk.drew ?_) | (with_reducible refine Blk.drewN ?_ _) | (with_reducible refine Blk.alloc ?_ _) | (with_reducible refine Blk.far ?_ ?_ _) | omega | (focus (simp; done)) | (focus (simp; omega)))) (by first | omega | (simp; done) | (simp; omega)); (try simp only [World.size_alloc, List.setIfInBounds_toArray, List.set_cons_zero, List.set_cons_succ] at R8); have R8l := R8.lt; (try simp only [World.size_alloc] at R8l); have R8c0 := R8.cellv 0 rfl; have R8c1 := R8.cellv 1 rfl; have R8c2 := R8.cellv 2 rfl; have R8c3 := R8.cellv 3 rfl; have R8f0 := R8.frozen 0; have R8f1 := R8.frozen 1; have R8f2 := R8.frozen 2; have R8f3 := R8.frozen 3; have X8 := Blk.liftO X7 ho8 (by repeat (first | (with_reducible exact X7) | (with_reducible refine Blk.drew ?_) | (with_reducible refine Blk.drewN ?_ _) | (with_reducible refine Blk.alloc ?_ _) | (with_reducible refine Blk.far ?_ ?_ _) | omega | (focus (simp; done)) | (focus (simp; omega)))) (by first | omega | (simp; done) | (simp; omega)); (try simp only [World.size_alloc, List.setIfInBounds_toArray, List.set_cons_zero, List.set_cons_succ] at X8); have X8l := X8.lt; (try simp only [World.size_alloc] at X8l); have X8c0 := X8.cellv 0 rfl; have X8c1 := X8.cellv 1 rfl; have X8c2 := X8.cellv 2 rfl; have X8c3 := X8.cellv 3 rfl; have X8f0 := X8.frozen 0; have X8f1 := X8.frozen 1; have X8f2 := X8.frozen 2; have X8f3 := X8.frozen 3
        have own8 := own_setb (own_only own7 ho8 (by omega)) X8 (by decide) 2 (.int .i64 v8)
        have g8 := only_setCell (only_trans g7 ho8) (p := ⟨w1.heap.size + 1, 2, none⟩) (.inr (by simp; omega)) (.int .i64 v8)
        go_wp2_with fail
        (with_reducible refine (pick_U rb (p + 2 + k + 2) 3 _ ?_ (by omega) (by omega)).mono ?_); (exact (by repeat (first | (with_reducible refine RdU.up (by assumption) (by omega)) | (with_reducible refine Rd.up (by assumption) (by omega)) | (with_reducible refine RdU.up (RdB.u (by assumption)) (by omega)) | (with_reducible refine RdU.drew ?_) | (with_reducible refine RdU.drewN ?_ _) | (with_reducible refine RdU.alloc ?_ _) | (with_reducible refine RdU.setCell ?_ ?_ _) | (with_reducible refine RdU.below ?_ (by assumption)) | omega | (focus (simp; done)) | (focus (simp; omega))))); rintro e w9 ⟨v9, rfl, hv9, hu9, hr9, ho9⟩; have hz9 := ho9.size; (try simp at hz9); have R9 := Blk.liftO R8 ho9 (by repeat (first | (with_reducible exact R8) | (with_reducible refine Blk.drew ?_) | (with_reducible refine Blk.drewN ?_ _) | (with_reducible refine Blk.alloc ?_ _) | (with_reducible refine Blk.far ?_ ?_ _) | omega | (focus (simp; done)) | (focus (simp; omega)))) (by first | omega | (simp; done) | (simp; omega)); (try simp only [World.size_alloc, List.setIfInBounds_toArray, List.set_cons_zero, List.set_cons_succ] at R9); have R9l := R9.lt; (try simp only [World.size_alloc] at R9l); have R9c0 := R9.cellv 0 rfl; have R9c1 := R9.cellv 1 rfl; have R9c2 := R9.cellv 2 rfl; have R9c3 := R9.cellv 3 rfl; have R9f0 := R9.frozen 0; have R9f1 := R9.frozen 1; have R9f2 := R9.frozen 2; have R9f3 := R9.frozen 3; have X9 := (X8.set_ 2 _).grown ho9 (by first | omega | (simp; done) | (simp; omega)); (try simp only [World.size_alloc, List.setIfInBounds_toArray, List.set_cons_zero, List.set_cons_succ] at X9); have X9l := X9.lt; (try simp only [World.size_alloc] at X9l); have X9c0 := X9.cellv 0 rfl; have X9c1 := X9.cellv 1 rfl; have X9c2 := X9.cellv 2 rfl; have X9c3 := X9.cellv 3 rfl; have X9f0 := X9.frozen 0; have X9f1 := X9.frozen 1; have X9f2 := X9.frozen 2; have X9f3 := X9.frozen 3
        have own9 := own_only own8 ho9 (by omega)
        have g9 := only_trans g8 ho9
        have ownb := own_setb own9 X9 (by decide) 3 (.int .i64 (1 + v9))
        go_wp2_with fail
        (with_reducible refine (pick_U rb (p + 2 + k + 3) 30 _ ?_ (by omega) (by omega)).mono ?_); (exact (by repeat (first | (with_reducible refine RdU.up (by assumption) (by omega)) | (with_reducible refine Rd.up (by assumption) (by omega)) | (with_reducible refine RdU.up (RdB.u (by assumption)) (by omega)) | (with_reducible refine RdU.drew ?_) | (with_reducible refine RdU.drewN ?_ _) | (with_reducible refine RdU.alloc ?_ _) | (with_reducible refine RdU.setCell ?_ ?_ _) | (with_reducible refine RdU.below ?_ (by assumption)) | omega | (focus (simp; done)) | (focus (simp; omega))))); rintro e w10 ⟨v10, rfl, hv10, hu10, hr10, ho10⟩; have hz10 := ho10.size; (try simp at hz10); have R10 := Blk.liftO R9 ho10 (by repeat (first | (with_reducible exact R9) | (with_reducible refine Blk.drew ?_) | (with_reducible refine Blk.drewN ?_ _) | (with_reducible refine Blk.alloc ?_ _) | (with_reducible refine Blk.far ?_ ?_ _) | omega | (focus (simp; done)) | (focus (simp; omega)))) (by first | omega | (simp; done) | (simp; omega)); (try simp only [World.size_alloc, List.setIfInBounds_toArray, List.set_cons_zero, List.set_cons_succ] at R10); have R10l := R10.lt; (try simp only [World.size_alloc] at R10l); have R10c0 := R10.cellv 0 rfl; have R10c1 := R10.cellv 1 rfl; have R10c2 := R10.cellv 2 rfl; have R10c3 := R10.cellv 3 rfl; have R10f0 := R10.frozen 0; have R10f1 := R10.frozen 1; have R10f2 := R10.frozen 2; have R10f3 := R10.frozen 3; have X10 := (X9.set_ 3 _).grown ho10 (by first | omega | (simp; done) | (simp; omega)); (try simp only [World.size_alloc, List.setIfInBounds_toArray, List.set_cons_zero, List.set_cons_succ] at X10); have X10l := X10.lt; (try simp only [World.size_alloc] at X10l); have X10c0 := X10.cellv 0 rfl; have X10c1 := X10.cellv 1 rfl; have X10c2 := X10.cellv 2 rfl; have X10c3 := X10.cellv 3 rfl; have X10f0 := X10.frozen 0; have X10f1 := X10.frozen 1; have X10f2 := X10.frozen 2; have X10f3 := X10.frozen 3
        have own10 := own_only ownb ho10 (by omega)
        have g10 := only_trans (only_setCell g9 (p := ⟨w1.heap.size + 1, 3, none⟩) (.inr (by simp; omega)) (.int .i64 (1 + v9))) ho10
        by_cases q0 : v10 = 0
        · subst q0
          go_wp2_with (go_at_call_of 31 (Value.int IntKind.i64 4); go_must ((with_reducible refine (pick_U rb (p + 2 + k + 3 + 1) 4 _ ?_ (by omega) (by omega)).mono ?_); (exact (by repeat (first | (with_reducible refine RdU.up (by assumption) (by omega)) | (with_reducible refine Rd.up (by assumption) (by omega)) | (with_reducible refine RdU.up (RdB.u (by assumption)) (by omega)) | (with_reducible refine RdU.drew ?_) | (with_reducible refine RdU.drewN ?_ _) | (with_reducible refine RdU.alloc ?_ _) | (with_reducible refine RdU.setCell ?_ ?_ _) | (with_reducible refine RdU.below ?_ (by assumption)) | omega | (focus (simp; done)) | (focus (simp; omega))))); rintro e w11 ⟨v11, rfl, hv11, hu11, hr11, ho11⟩; have hz11 := ho11.size; (try simp at hz11); have R11 := Blk.liftO R10 ho11 (by repeat (first | (with_reducible exact R10) | (with_reducible refine Blk.drew ?_) | (with_reducible refine Blk.drewN ?_ _) | (with_reducible refine Blk.alloc ?_ _) | (with_reducible refine Blk.far ?_ ?_ _) | omega | (focus (simp; done)) | (focus (simp; omega)))) (by first | omega | (simp; done) | (simp; omega)); (try simp only [World.size_alloc, List.setIfInBounds_toArray, List.set_cons_zero, List.set_cons_succ] at R11); have R11l := R11.lt; (try simp only [World.size_alloc] at R11l); have R11c0 := R11.cellv 0 rfl; have R11c1 := R11.cellv 1 rfl; have R11c2 := R11.cellv 2 rfl; have R11c3 := R11.cellv 3 rfl; have R11f0 := R11.frozen 0; have R11f1 := R11.frozen 1; have R11f2 := R11.frozen 2; have R11f3 := R11.frozen 3; have X11 := Blk.liftO X10 ho11 (by repeat (first | (with_reducible exact X10) | (with_reducible refine Blk.drew ?_) | (with_reducible refine Blk.drewN ?_ _) | (with_reducible refine Blk.alloc ?_ _) | (with_reducible refine Blk.far ?_ ?_ _) | omega | (focus (simp; done)) | (focus (simp; omega)))) (by first | omega | (simp; done) | (simp; omega)); (try simp only [World.size_alloc, List.setIfInBounds_toArray, List.set_cons_zero, List.set_cons_succ] at X11); have X11l := X11.lt; (try simp only [World.size_alloc] at X11l); have X11c0 := X11.cellv 0 rfl; have X11c1 := X11.cellv 1 rfl; have X11c2 := X11.cellv 2 rfl; have X11c3 := X11.cellv 3 rfl; have X11f0 := X11.frozen 0; have X11f1 := X11.frozen 1; have X11f2 := X11.frozen 2; have X11f3 := X11.frozen 3; obtain ⟨x, hx, _⟩ := nth_of [-1, 0, 1, 4] ((Blk.new _ _ _).grown ho11 (by simp; omega)) hv11 hu11; have own11 := own_only (own10.alloc _) ho11 (by omega); have ownz := own_setb own11 X11 (by decide) 3 (.int .i64 x); have g11 := only_trans (only_alloc g10 _) ho11))
          exact bodyPost_ret (by simp [results, Try.results72, go_sem, *]; repeat (first | exact rfl | refine And.intro ?_ ?_)) rfl ⟨_, _, _, A, _, c, ys, rfl, (own_mono_ (own_lift_ ownz (by repeat (first | (with_reducible exact ownz) | (with_reducible refine own_set ?_ ?_ _) | (with_reducible refine World.ownsRow.alloc ?_ _) | (with_reducible refine own_below_ ?_ (by assumption)) | (with_reducible refine own_only ?_ (by assumption) ?_) | omega | (focus (simp; done)) | (focus (simp; omega))))) (by first | omega | (simp; done) | (simp; omega))), by omega, (by repeat (first | (with_reducible refine RdU.up (by assumption) (by omega)) | (with_reducible refine Rd.up (by assumption) (by omega)) | (with_reducible refine RdU.up (RdB.u (by assumption)) (by omega)) | (with_reducible refine RdU.drew ?_) | (with_reducible refine RdU.drewN ?_ _) | (with_reducible refine RdU.alloc ?_ _) | (with_reducible refine RdU.setCell ?_ ?_ _) | (with_reducible refine RdU.below ?_ (by assumption)) | omega | (focus (simp; done)) | (focus (simp; omega)))), (by repeat (first | (with_reducible exact only_refl _ _) | (with_reducible refine only_drew ?_) | (with_reducible refine only_drewN ?_ _) | (with_reducible refine only_alloc ?_ _) | (with_reducible refine only_setCell ?_ (.inl rfl) _) | (with_reducible refine only_setCell ?_ (.inr ?_) _) | (with_reducible refine only_below ?_ (by assumption)) | (with_reducible refine only_trans ?_ (by assumption)) | omega | (focus (simp; done)) | (focus (simp; omega))))⟩
        have z0 : (v10 == 0) = false := by simpa using q0
        by_cases q1 : v10 = 1
        · subst q1
          go_wp2_with (go_at_call_of 31 (Value.int IntKind.i64 2); go_must ((with_reducible refine (pick_U rb (p + 2 + k + 3 + 1) 2 _ ?_ (by omega) (by omega)).mono ?_); (exact (by repeat (first | (with_reducible refine RdU.up (by assumption) (by omega)) | (with_reducible refine Rd.up (by assumption) (by omega)) | (with_reducible refine RdU.up (RdB.u (by assumption)) (by omega)) | (with_reducible refine RdU.drew ?_) | (with_reducible refine RdU.drewN ?_ _) | (with_reducible refine RdU.alloc ?_ _) | (with_reducible refine RdU.setCell ?_ ?_ _) | (with_reducible refine RdU.below ?_ (by assumption)) | omega | (focus (simp; done)) | (focus (simp; omega))))); rintro e w11 ⟨v11, rfl, hv11, hu11, hr11, ho11⟩; have hz11 := ho11.size; (try simp at hz11); have R11 := Blk.liftO R10 ho11 (by repeat (first | (with_reducible exact R10) | (with_reducible refine Blk.drew ?_) | (with_reducible refine Blk.drewN ?_ _) | (with_reducible refine Blk.alloc ?_ _) | (with_reducible refine Blk.far ?_ ?_ _) | omega | (focus (simp; done)) | (focus (simp; omega)))) (by first | omega | (simp; done) | (simp; omega)); (try simp only [World.size_alloc, List.setIfInBounds_toArray, List.set_cons_zero, List.set_cons_succ] at R11); have R11l := R11.lt; (try simp only [World.size_alloc] at R11l); have R11c0 := R11.cellv 0 rfl; have R11c1 := R11.cellv 1 rfl; have R11c2 := R11.cellv 2 rfl; have R11c3 := R11.cellv 3 rfl; have R11f0 := R11.frozen 0; have R11f1 := R11.frozen 1; have R11f2 := R11.frozen 2; have R11f3 := R11.frozen 3; have X11 := Blk.liftO X10 ho11 (by repeat (first | (with_reducible exact X10) | (with_reducible refine Blk.drew ?_) | (with_reducible refine Blk.drewN ?_ _) | (with_reducible refine Blk.alloc ?_ _) | (with_reducible refine Blk.far ?_ ?_ _) | omega | (focus (simp; done)) | (focus (simp; omega)))) (by first | omega | (simp; done) | (simp; omega)); (try simp only [World.size_alloc, List.setIfInBounds_toArray, List.set_cons_zero, List.set_cons_succ] at X11); have X11l := X11.lt; (try simp only [World.size_alloc] at X11l); have X11c0 := X11.cellv 0 rfl; have X11c1 := X11.cellv 1 rfl; have X11c2 := X11.cellv 2 rfl; have X11c3 := X11.cellv 3 rfl; have X11f0 := X11.frozen 0; have X11f1 := X11.frozen 1; have X11f2 := X11.frozen 2; have X11f3 := X11.frozen 3; obtain ⟨x, hx, _⟩ := nth_of [0, 17] ((Blk.new _ _ _).grown ho11 (by simp; omega)) hv11 hu11; have own11 := own_only (own10.alloc _) ho11 (by omega); have ownz := own_setb own11 X11 (by decide) 0 (.int .i64 x); have g11 := only_trans (only_alloc g10 _) ho11))
          exact bodyPost_ret (by simp [results, Try.results72, go_sem, *]; repeat (first | exact rfl | refine And.intro ?_ ?_)) rfl ⟨_, _, _, A, _, c, ys, rfl, (own_mono_ (own_lift_ ownz (by repeat (first | (with_reducible exact ownz) | (with_reducible refine own_set ?_ ?_ _) | (with_reducible refine World.ownsRow.alloc ?_ _) | (with_reducible refine own_below_ ?_ (by assumption)) | (with_reducible refine own_only ?_ (by assumption) ?_) | omega | (focus (simp; done)) | (focus (simp; omega))))) (by first | omega | (simp; done) | (simp; omega))), by omega, (by repeat (first | (with_reducible refine RdU.up (by assumption) (by omega)) | (with_reducible refine Rd.up (by assumption) (by omega)) | (with_reducible refine RdU.up (RdB.u (by assumption)) (by omega)) | (with_reducible refine RdU.drew ?_) | (with_reducible refine RdU.drewN ?_ _) | (with_reducible refine RdU.alloc ?_ _) | (with_reducible refine RdU.setCell ?_ ?_ _) | (with_reducible refine RdU.below ?_ (by assumption)) | omega | (focus (simp; done)) | (focus (simp; omega)))), (by repeat (first | (with_reducible exact only_refl _ _) | (with_reducible refine only_drew ?_) | (with_reducible refine only_drewN ?_ _) | (with_reducible refine only_alloc ?_ _) | (with_reducible refine only_setCell ?_ (.inl rfl) _) | (with_reducible refine only_setCell ?_ (.inr ?_) _) | (with_reducible refine only_below ?_ (by assumption)) | (with_reducible refine only_trans ?_ (by assumption)) | omega | (focus (simp; done)) | (focus (simp; omega))))⟩
        have z1 : (v10 == 1) = false := by simpa using q1
        clear q0 q1
        go_wp2
        exact bodyPost_ret (by simp [results, Try.results72, go_sem, *]; repeat (first | exact rfl | refine And.intro ?_ ?_)) rfl ⟨_, _, _, A, _, c, ys, rfl, (own_mono_ (own_lift_ own10 (by repeat (first | (with_reducible exact own10) | (with_reducible refine own_set ?_ ?_ _) | (with_reducible refine World.ownsRow.alloc ?_ _) | (with_reducible refine own_below_ ?_ (by assumption)) | (with_reducible refine own_only ?_ (by assumption) ?_) | omega | (focus (simp; done)) | (focus (simp; omega))))) (by first | omega | (simp; done) | (simp; omega))), by omega, (by repeat (first | (with_reducible refine RdU.up (by assumption) (by omega)) | (with_reducible refine Rd.up (by assumption) (by omega)) | (with_reducible refine RdU.up (RdB.u (by assumption)) (by omega)) | (with_reducible refine RdU.drew ?_) | (with_reducible refine RdU.drewN ?_ _) | (with_reducible refine RdU.alloc ?_ _) | (with_reducible refine RdU.setCell ?_ ?_ _) | (with_reducible refine RdU.below ?_ (by assumption)) | omega | (focus (simp; done)) | (focus (simp; omega)))), (by repeat (first | (with_reducible exact only_refl _ _) | (with_reducible refine only_drew ?_) | (with_reducible refine only_drewN ?_ _) | (with_reducible refine only_alloc ?_ _) | (with_reducible refine only_setCell ?_ (.inl rfl) _) | (with_reducible refine only_setCell ?_ (.inr ?_) _) | (with_reducible refine only_below ?_ (by assumption)) | (with_reducible refine only_trans ?_ (by assumption)) | omega | (focus (simp; done)) | (focus (simp; omega))))⟩
      have z7 : (v7 == 0) = false := by simpa using q7
      clear q7
      go_wp2_with fail
      (with_reducible refine (pick_U rb (p + 2 + k + 3) 30 _ ?_ (by omega) (by omega)).mono ?_); (exact (by repeat (first | (with_reducible refine RdU.up (by assumption) (by omega)) | (with_reducible refine Rd.up (by assumption) (by omega)) | (with_reducible refine RdU.up (RdB.u (by assumption)) (by omega)) | (with_reducible refine RdU.drew ?_) | (with_reducible refine RdU.drewN ?_ _) | (with_reducible refine RdU.alloc ?_ _) | (with_reducible refine RdU.setCell ?_ ?_ _) | (with_reducible refine RdU.below ?_ (by assumption)) | omega | (focus (simp; done)) | (focus (simp; omega))))); rintro e w10 ⟨v10, rfl, hv10, hu10, hr10, ho10⟩; have hz10 := ho10.size; (try simp at hz10); have R10 := Blk.liftO R7 ho10 (by repeat (first | (with_reducible exact R7) | (with_reducible refine Blk.drew ?_) | (with_reducible refine Blk.drewN ?_ _) | (with_reducible refine Blk.alloc ?_ _) | (with_reducible refine Blk.far ?_ ?_ _) | omega | (focus (simp; done)) | (focus (simp; omega)))) (by first | omega | (simp; done) | (simp; omega)); (try simp only [World.size_alloc, List.setIfInBounds_toArray, List.set_cons_zero, List.set_cons_succ] at R10); have R10l := R10.lt; (try simp only [World.size_alloc] at R10l); have R10c0 := R10.cellv 0 rfl; have R10c1 := R10.cellv 1 rfl; have R10c2 := R10.cellv 2 rfl; have R10c3 := R10.cellv 3 rfl; have R10f0 := R10.frozen 0; have R10f1 := R10.frozen 1; have R10f2 := R10.frozen 2; have R10f3 := R10.frozen 3; have X10 := Blk.liftO X7 ho10 (by repeat (first | (with_reducible exact X7) | (with_reducible refine Blk.drew ?_) | (with_reducible refine Blk.drewN ?_ _) | (with_reducible refine Blk.alloc ?_ _) | (with_reducible refine Blk.far ?_ ?_ _) | omega | (focus (simp; done)) | (focus (simp; omega)))) (by first | omega | (simp; done) | (simp; omega)); (try simp only [World.size_alloc, List.setIfInBounds_toArray, List.set_cons_zero, List.set_cons_succ] at X10); have X10l := X10.lt; (try simp only [World.size_alloc] at X10l); have X10c0 := X10.cellv 0 rfl; have X10c1 := X10.cellv 1 rfl; have X10c2 := X10.cellv 2 rfl; have X10c3 := X10.cellv 3 rfl; have X10f0 := X10.frozen 0; have X10f1 := X10.frozen 1; have X10f2 := X10.frozen 2; have X10f3 := X10.frozen 3
      have own10 := own_only own7 ho10 (by omega)
      have g10 := only_trans g7 ho10
      by_cases q0 : v10 = 0
      · subst q0
        go_wp2_with (go_at_call_of 31 (Value.int IntKind.i64 4); go_must ((with_reducible refine (pick_U rb (p + 2 + k + 3 + 1) 4 _ ?_ (by omega) (by omega)).mono ?_); (exact (by repeat (first | (with_reducible refine RdU.up (by assumption) (by omega)) | (with_reducible refine Rd.up (by assumption) (by omega)) | (with_reducible refine RdU.up (RdB.u (by assumption)) (by omega)) | (with_reducible refine RdU.drew ?_) | (with_reducible refine RdU.drewN ?_ _) | (with_reducible refine RdU.alloc ?_ _) | (with_reducible refine RdU.setCell ?_ ?_ _) | (with_reducible refine RdU.below ?_ (by assumption)) | omega | (focus (simp; done)) | (focus (simp; omega))))); rintro e w11 ⟨v11, rfl, hv11, hu11, hr11, ho11⟩; have hz11 := ho11.size; (try simp at hz11); have R11 := Blk.liftO R10 ho11 (by repeat (first | (with_reducible exact R10) | (with_reducible refine Blk.drew ?_) | (with_reducible refine Blk.drewN ?_ _) | (with_reducible refine Blk.alloc ?_ _) | (with_reducible refine Blk.far ?_ ?_ _) | omega | (focus (simp; done)) | (focus (simp; omega)))) (by first | omega | (simp; done) | (simp; omega)); (try simp only [World.size_alloc, List.setIfInBounds_toArray, List.set_cons_zero, List.set_cons_succ] at R11); have R11l := R11.lt; (try simp only [World.size_alloc] at R11l); have R11c0 := R11.cellv 0 rfl; have R11c1 := R11.cellv 1 rfl; have R11c2 := R11.cellv 2 rfl; have R11c3 := R11.cellv 3 rfl; have R11f0 := R11.frozen 0; have R11f1 := R11.frozen 1; have R11f2 := R11.frozen 2; have R11f3 := R11.frozen 3; have X11 := Blk.liftO X10 ho11 (by repeat (first | (with_reducible exact X10) | (with_reducible refine Blk.drew ?_) | (with_reducible refine Blk.drewN ?_ _) | (with_reducible refine Blk.alloc ?_ _) | (with_reducible refine Blk.far ?_ ?_ _) | omega | (focus (simp; done)) | (focus (simp; omega)))) (by first | omega | (simp; done) | (simp; omega)); (try simp only [World.size_alloc, List.setIfInBounds_toArray, List.set_cons_zero, List.set_cons_succ] at X11); have X11l := X11.lt; (try simp only [World.size_alloc] at X11l); have X11c0 := X11.cellv 0 rfl; have X11c1 := X11.cellv 1 rfl; have X11c2 := X11.cellv 2 rfl; have X11c3 := X11.cellv 3 rfl; have X11f0 := X11.frozen 0; have X11f1 := X11.frozen 1; have X11f2 := X11.frozen 2; have X11f3 := X11.frozen 3; obtain ⟨x, hx, _⟩ := nth_of [-1, 0, 1, 4] ((Blk.new _ _ _).grown ho11 (by simp; omega)) hv11 hu11; have own11 := own_only (own10.alloc _) ho11 (by omega); have ownz := own_setb own11 X11 (by decide) 3 (.int .i64 x); have g11 := only_trans (only_alloc g10 _) ho11))
        exact bodyPost_ret (by simp [results, Try.results72, go_sem, *]; repeat (first | exact rfl | refine And.intro ?_ ?_)) rfl ⟨_, _, _, A, _, c, ys, rfl, (own_mono_ (own_lift_ ownz (by repeat (first | (with_reducible exact ownz) | (with_reducible refine own_set ?_ ?_ _) | (with_reducible refine World.ownsRow.alloc ?_ _) | (with_reducible refine own_below_ ?_ (by assumption)) | (with_reducible refine own_only ?_ (by assumption) ?_) | omega | (focus (simp; done)) | (focus (simp; omega))))) (by first | omega | (simp; done) | (simp; omega))), by omega, (by repeat (first | (with_reducible refine RdU.up (by assumption) (by omega)) | (with_reducible refine Rd.up (by assumption) (by omega)) | (with_reducible refine RdU.up (RdB.u (by assumption)) (by omega)) | (with_reducible refine RdU.drew ?_) | (with_reducible refine RdU.drewN ?_ _) | (with_reducible refine RdU.alloc ?_ _) | (with_reducible refine RdU.setCell ?_ ?_ _) | (with_reducible refine RdU.below ?_ (by assumption)) | omega | (focus (simp; done)) | (focus (simp; omega)))), (by repeat (first | (with_reducible exact only_refl _ _) | (with_reducible refine only_drew ?_) | (with_reducible refine only_drewN ?_ _) | (with_reducible refine only_alloc ?_ _) | (with_reducible refine only_setCell ?_ (.inl rfl) _) | (with_reducible refine only_setCell ?_ (.inr ?_) _) | (with_reducible refine only_below ?_ (by assumption)) | (with_reducible refine only_trans ?_ (by assumption)) | omega | (focus (simp; done)) | (focus (simp; omega))))⟩
      have z0 : (v10 == 0) = false := by simpa using q0
      by_cases q1 : v10 = 1
      · subst q1
        go_wp2_with (go_at_call_of 31 (Value.int IntKind.i64 2); go_must ((with_reducible refine (pick_U rb (p + 2 + k + 3 + 1) 2 _ ?_ (by omega) (by omega)).mono ?_); (exact (by repeat (first | (with_reducible refine RdU.up (by assumption) (by omega)) | (with_reducible refine Rd.up (by assumption) (by omega)) | (with_reducible refine RdU.up (RdB.u (by assumption)) (by omega)) | (with_reducible refine RdU.drew ?_) | (with_reducible refine RdU.drewN ?_ _) | (with_reducible refine RdU.alloc ?_ _) | (with_reducible refine RdU.setCell ?_ ?_ _) | (with_reducible refine RdU.below ?_ (by assumption)) | omega | (focus (simp; done)) | (focus (simp; omega))))); rintro e w11 ⟨v11, rfl, hv11, hu11, hr11, ho11⟩; have hz11 := ho11.size; (try simp at hz11); have R11 := Blk.liftO R10 ho11 (by repeat (first | (with_reducible exact R10) | (with_reducible refine Blk.drew ?_) | (with_reducible refine Blk.drewN ?_ _) | (with_reducible refine Blk.alloc ?_ _) | (with_reducible refine Blk.far ?_ ?_ _) | omega | (focus (simp; done)) | (focus (simp; omega)))) (by first | omega | (simp; done) | (simp; omega)); (try simp only [World.size_alloc, List.setIfInBounds_toArray, List.set_cons_zero, List.set_cons_succ] at R11); have R11l := R11.lt; (try simp only [World.size_alloc] at R11l); have R11c0 := R11.cellv 0 rfl; have R11c1 := R11.cellv 1 rfl; have R11c2 := R11.cellv 2 rfl; have R11c3 := R11.cellv 3 rfl; have R11f0 := R11.frozen 0; have R11f1 := R11.frozen 1; have R11f2 := R11.frozen 2; have R11f3 := R11.frozen 3; have X11 := Blk.liftO X10 ho11 (by repeat (first | (with_reducible exact X10) | (with_reducible refine Blk.drew ?_) | (with_reducible refine Blk.drewN ?_ _) | (with_reducible refine Blk.alloc ?_ _) | (with_reducible refine Blk.far ?_ ?_ _) | omega | (focus (simp; done)) | (focus (simp; omega)))) (by first | omega | (simp; done) | (simp; omega)); (try simp only [World.size_alloc, List.setIfInBounds_toArray, List.set_cons_zero, List.set_cons_succ] at X11); have X11l := X11.lt; (try simp only [World.size_alloc] at X11l); have X11c0 := X11.cellv 0 rfl; have X11c1 := X11.cellv 1 rfl; have X11c2 := X11.cellv 2 rfl; have X11c3 := X11.cellv 3 rfl; have X11f0 := X11.frozen 0; have X11f1 := X11.frozen 1; have X11f2 := X11.frozen 2; have X11f3 := X11.frozen 3; obtain ⟨x, hx, _⟩ := nth_of [0, 17] ((Blk.new _ _ _).grown ho11 (by simp; omega)) hv11 hu11; have own11 := own_only (own10.alloc _) ho11 (by omega); have ownz := own_setb own11 X11 (by decide) 0 (.int .i64 x); have g11 := only_trans (only_alloc g10 _) ho11))
        exact bodyPost_ret (by simp [results, Try.results72, go_sem, *]; repeat (first | exact rfl | refine And.intro ?_ ?_)) rfl ⟨_, _, _, A, _, c, ys, rfl, (own_mono_ (own_lift_ ownz (by repeat (first | (with_reducible exact ownz) | (with_reducible refine own_set ?_ ?_ _) | (with_reducible refine World.ownsRow.alloc ?_ _) | (with_reducible refine own_below_ ?_ (by assumption)) | (with_reducible refine own_only ?_ (by assumption) ?_) | omega | (focus (simp; done)) | (focus (simp; omega))))) (by first | omega | (simp; done) | (simp; omega))), by omega, (by repeat (first | (with_reducible refine RdU.up (by assumption) (by omega)) | (with_reducible refine Rd.up (by assumption) (by omega)) | (with_reducible refine RdU.up (RdB.u (by assumption)) (by omega)) | (with_reducible refine RdU.drew ?_) | (with_reducible refine RdU.drewN ?_ _) | (with_reducible refine RdU.alloc ?_ _) | (with_reducible refine RdU.setCell ?_ ?_ _) | (with_reducible refine RdU.below ?_ (by assumption)) | omega | (focus (simp; done)) | (focus (simp; omega)))), (by repeat (first | (with_reducible exact only_refl _ _) | (with_reducible refine only_drew ?_) | (with_reducible refine only_drewN ?_ _) | (with_reducible refine only_alloc ?_ _) | (with_reducible refine only_setCell ?_ (.inl rfl) _) | (with_reducible refine only_setCell ?_ (.inr ?_) _) | (with_reducible refine only_below ?_ (by assumption)) | (with_reducible refine only_trans ?_ (by assumption)) | omega | (focus (simp; done)) | (focus (simp; omega))))⟩
      have z1 : (v10 == 1) = false := by simpa using q1
      clear q0 q1
      go_wp2
      exact bodyPost_ret (by simp [results, Try.results72, go_sem, *]; repeat (first | exact rfl | refine And.intro ?_ ?_)) rfl ⟨_, _, _, A, _, c, ys, rfl, (own_mono_ (own_lift_ own10 (by repeat (first | (with_reducible exact own10) | (with_reducible refine own_set ?_ ?_ _) | (with_reducible refine World.ownsRow.alloc ?_ _) | (with_reducible refine own_below_ ?_ (by assumption)) | (with_reducible refine own_only ?_ (by assumption) ?_) | omega | (focus (simp; done)) | (focus (simp; omega))))) (by first | omega | (simp; done) | (simp; omega))), by omega, (by repeat (first | (with_reducible refine RdU.up (by assumption) (by omega)) | (with_reducible refine Rd.up (by assumption) (by omega)) | (with_reducible refine RdU.up (RdB.u (by assumption)) (by omega)) | (with_reducible refine RdU.drew ?_) | (with_reducible refine RdU.drewN ?_ _) | (with_reducible refine RdU.alloc ?_ _) | (with_reducible refine RdU.setCell ?_ ?_ _) | (with_reducible refine RdU.below ?_ (by assumption)) | omega | (focus (simp; done)) | (focus (simp; omega)))), (by repeat (first | (with_reducible exact only_refl _ _) | (with_reducible refine only_drew ?_) | (with_reducible refine only_drewN ?_ _) | (with_reducible refine only_alloc ?_ _) | (with_reducible refine only_setCell ?_ (.inl rfl) _) | (with_reducible refine only_setCell ?_ (.inr ?_) _) | (with_reducible refine only_below ?_ (by assumption)) | (with_reducible refine only_trans ?_ (by assumption)) | omega | (focus (simp; done)) | (focus (simp; omega))))⟩
theorem gotCells_append (gs hs : List (Int × Int)) : gotCells (gs ++ hs) = gotCells gs ++ gotCells hs := by simp [gotCells]
/-- An append of bytes that came, in a region that draws. -/
theorem step_appG {ops : Array Oper} {o : Oper} {a : Act} {K : Act → World → Prop} {Q : Exit → Act → World → Prop} {E : Prop} {w : World} {base : Nat} {v : Value} {n : Nat} {gs : List (Int × Int)} {A : Option Addr} {m c : Nat} {hs : List (Int × Int)}
    (hown : w.ownsRow base 64 2 v n (gotCells gs)) (hr : Gots w A m hs) (hgd : o.guard = none) (s x : Operand)
    (ho : o.op = .call { callee := .builtin .append, args := #[s, x], argTypes := #[41, 41] }) (hsv : a.eval s = v) (hx : a.eval x = .slice A m c) (k : Nat) (hk : n + m = k) (hnm : k ≤ 1099511627776) (hbase : base ≤ w.heap.size)
    (h : ∀ (A' : Option Addr) (c' : Nat) (w' : World), w'.ownsRow base 64 2 (.slice A' k c') k (gotCells (gs ++ hs)) → w.grownBy w' v.ownBlock → (Value.slice A' k c').ownBlock = v.ownBlock ∨ (Value.slice A' k c').ownBlock = some w.heap.size → k ≤ c' → c' ≤ maxLen → K (a.put o.dst (.slice A' k c')) w') :
    if Region.wanted o (yielded ops a.tmps) = true then Oper.wp Try.prog o a w K Q else E := by
  have hw : Region.wanted o (yielded ops a.tmps) = true := by simp [Region.wanted, hgd]
  rw [if_pos hw]
  subst hk
  obtain ⟨i0, hi0, hz0, hz1, hz2⟩ := info_parts got_info
  obtain ⟨v', w', hrun, h2, h3, h4⟩ := run_app (P := Try.prog) w base 41 o.type 64 i0 (.agg #[.int .i64 0, .int .i64 0]) 2 16 Try.underlying41 hi0 hz0 hz1 hz2 rfl (by omega) v n _ hown w.heap.size A m c _ hr
    (fun u hu => by
      obtain ⟨g, _, hg⟩ := List.mem_flatMap.1 hu
      simp at hg
      rcases hg with rfl | rfl <;> rfl) (by unfold maxLen; omega) (by omega) hbase
  rw [← gotCells_append] at h2
  obtain ⟨A', c', rfl, hc1, hc2⟩ := own_form2 h2
  unfold Oper.wp execOp
  simp only [ho, resolve, invoke, builtin, Sem.run_bind, Sem.run_pure, Result.andThen_ok, List.map_toArray, List.map_cons, List.map_nil, hsv, hx, hrun]
  exact h A' c' w' h2 h3 h4 hc1 hc2
/-- A block of one byte that came, read as a list. -/
theorem Gots.one {w : World} {g : Nat} {x y : Int} (h : Blk w g 64 #[.int .i64 x, .int .i64 y]) : Gots w (some ⟨g, 0, none⟩) 1 [(x, y)] := by
  refine ⟨rfl, fun _ => ⟨_, rfl, h.lt, fun j u hu => ?_⟩⟩
  rw [add_none, Nat.zero_add, h.cell]
  simpa [gotCells] using hu
set_option maxHeartbeats 8000000 in
theorem l91Recv_any (rb p : Nat) (w : World) (h : RdU w rb p) (hp : p ≤ 3000000) :
    Calls Try.prog 71 #[.pointer (some ⟨rb, 0, none⟩)] w fun e w' => ∃ (rr rt ra : Int) (rl : Bool) (RA : Option Addr) (rn rc : Nat) (gs : List (Int × Int)), e = .returned (.agg #[.int .i64 rr, .int .i64 rt, .slice RA rn rc, .bool rl, .int .i64 ra]) ∧ w'.ownsRow w.heap.size 64 2 (.slice RA rn rc) rn (gotCells gs) ∧ rn ≤ 6 ∧ RdU w' rb (p + 40) ∧ w.grownBy w' (some rb) := by
  have hlt := h.lt
  have hne : ¬ w.heap.size = rb := by omega
  go_enter Try.func71, Try.ntmps71
  go_wp2_with fail
  (with_reducible refine (pick_U rb (p) 6 _ ?_ (by omega) (by omega)).mono ?_); (exact (by repeat (first | (with_reducible refine RdU.up (by assumption) (by omega)) | (with_reducible refine Rd.up (by assumption) (by omega)) | (with_reducible refine RdU.up (RdB.u (by assumption)) (by omega)) | (with_reducible refine RdU.drew ?_) | (with_reducible refine RdU.drewN ?_ _) | (with_reducible refine RdU.alloc ?_ _) | (with_reducible refine RdU.setCell ?_ ?_ _) | (with_reducible refine RdU.below ?_ (by assumption)) | omega | (focus (simp; done)) | (focus (simp; omega))))); rintro e w1 ⟨v1, rfl, hv1, hu1, hr1, ho1⟩; have hz1 := ho1.size; (try simp at hz1); have R1 := (Blk.new _ _ _).grown ho1 (by first | omega | (simp; done) | (simp; omega)); (try simp only [World.size_alloc, List.setIfInBounds_toArray, List.set_cons_zero, List.set_cons_succ] at R1); have R1l := R1.lt; (try simp only [World.size_alloc] at R1l)
  have e1 : (w1.alloc (.cells #[] 64)).ownsRow (w.heap.size + 1) 64 2 (.slice (some ⟨w1.heap.size, 0, none⟩) 0 0) 0 (gotCells []) := by
    simpa [gotCells] using World.ownsRow_lit w1 #[] 0 (base := w.heap.size + 1) (e := 64) (size := 2) (by omega) (by unfold maxLen; omega) rfl
  have g1 : w.grownBy w1 (some rb) := only_trans (only_alloc (only_refl _ _) _) ho1
  go_wp2_with fail
  (with_reducible refine (pick_U rb (p + 1) 4 _ ?_ (by omega) (by omega)).mono ?_); (exact (by repeat (first | (with_reducible refine RdU.up (by assumption) (by omega)) | (with_reducible refine Rd.up (by assumption) (by omega)) | (with_reducible refine RdU.up (RdB.u (by assumption)) (by omega)) | (with_reducible refine RdU.drew ?_) | (with_reducible refine RdU.drewN ?_ _) | (with_reducible refine RdU.alloc ?_ _) | (with_reducible refine RdU.setCell ?_ ?_ _) | (with_reducible refine RdU.below ?_ (by assumption)) | omega | (focus (simp; done)) | (focus (simp; omega))))); rintro e w2 ⟨v2, rfl, hv2, hu2, hr2, ho2⟩; have hz2 := ho2.size; (try simp at hz2); have R2 := Blk.liftO R1 ho2 (by repeat (first | (with_reducible exact R1) | (with_reducible refine Blk.drew ?_) | (with_reducible refine Blk.drewN ?_ _) | (with_reducible refine Blk.alloc ?_ _) | (with_reducible refine Blk.far ?_ ?_ _) | omega | (focus (simp; done)) | (focus (simp; omega)))) (by first | omega | (simp; done) | (simp; omega)); (try simp only [World.size_alloc, List.setIfInBounds_toArray, List.set_cons_zero, List.set_cons_succ] at R2); have R2l := R2.lt; (try simp only [World.size_alloc] at R2l)
  have own2 := own_only e1 ho2 (by omega)
  have g2 := only_trans (only_alloc g1 _) ho2
  go_wp2_with fail
  (with_reducible refine (pick_U rb (p + 2) 8 _ ?_ (by omega) (by omega)).mono ?_); (exact (by repeat (first | (with_reducible refine RdU.up (by assumption) (by omega)) | (with_reducible refine Rd.up (by assumption) (by omega)) | (with_reducible refine RdU.up (RdB.u (by assumption)) (by omega)) | (with_reducible refine RdU.drew ?_) | (with_reducible refine RdU.drewN ?_ _) | (with_reducible refine RdU.alloc ?_ _) | (with_reducible refine RdU.setCell ?_ ?_ _) | (with_reducible refine RdU.below ?_ (by assumption)) | omega | (focus (simp; done)) | (focus (simp; omega))))); rintro e w3 ⟨v3, rfl, hv3, hu3, hr3, ho3⟩; have hz3 := ho3.size; (try simp at hz3); have R3 := Blk.liftO R2 ho3 (by repeat (first | (with_reducible exact R2) | (with_reducible refine Blk.drew ?_) | (with_reducible refine Blk.drewN ?_ _) | (with_reducible refine Blk.alloc ?_ _) | (with_reducible refine Blk.far ?_ ?_ _) | omega | (focus (simp; done)) | (focus (simp; omega)))) (by first | omega | (simp; done) | (simp; omega)); (try simp only [World.size_alloc, List.setIfInBounds_toArray, List.set_cons_zero, List.set_cons_succ] at R3); have R3l := R3.lt; (try simp only [World.size_alloc] at R3l)
  have own3 := own_only own2 ho3 (by omega)
  have g3 := only_trans g2 ho3
  go_wp2_with fail
  (with_reducible refine (pick_U rb (p + 3) (1 + v1) _ ?_ (by omega) (by omega)).mono ?_); (exact (by repeat (first | (with_reducible refine RdU.up (by assumption) (by omega)) | (with_reducible refine Rd.up (by assumption) (by omega)) | (with_reducible refine RdU.up (RdB.u (by assumption)) (by omega)) | (with_reducible refine RdU.drew ?_) | (with_reducible refine RdU.drewN ?_ _) | (with_reducible refine RdU.alloc ?_ _) | (with_reducible refine RdU.setCell ?_ ?_ _) | (with_reducible refine RdU.below ?_ (by assumption)) | omega | (focus (simp; done)) | (focus (simp; omega))))); rintro e w4 ⟨v4, rfl, hv4, hu4, hr4, ho4⟩; have hz4 := ho4.size; (try simp at hz4); have R4 := Blk.liftO R3 ho4 (by repeat (first | (with_reducible exact R3) | (with_reducible refine Blk.drew ?_) | (with_reducible refine Blk.drewN ?_ _) | (with_reducible refine Blk.alloc ?_ _) | (with_reducible refine Blk.far ?_ ?_ _) | omega | (focus (simp; done)) | (focus (simp; omega)))) (by first | omega | (simp; done) | (simp; omega)); (try simp only [World.size_alloc, List.setIfInBounds_toArray, List.set_cons_zero, List.set_cons_succ] at R4); have R4l := R4.lt; (try simp only [World.size_alloc] at R4l); have X4 := (Blk.new w3 _ _).grown ho4 (by first | omega | (simp; done) | (simp; omega)); (try simp only [World.size_alloc, List.setIfInBounds_toArray, List.set_cons_zero, List.set_cons_succ] at X4); have X4l := X4.lt; (try simp only [World.size_alloc] at X4l); have X4c0 := X4.cellv 0 rfl; have X4c1 := X4.cellv 1 rfl; have X4c2 := X4.cellv 2 rfl; have X4c3 := X4.cellv 3 rfl; have X4f0 := X4.frozen 0; have X4f1 := X4.frozen 1; have X4f2 := X4.frozen 2; have X4f3 := X4.frozen 3
  have own4 := own_only (own3.alloc _) ho4 (by omega)
  have g4 := only_trans (only_alloc g3 _) ho4
  go_wp2_with fail
  (with_reducible refine (pick_U rb (p + 4) (1 + v1 + 1) _ ?_ (by omega) (by omega)).mono ?_); (exact (by repeat (first | (with_reducible refine RdU.up (by assumption) (by omega)) | (with_reducible refine Rd.up (by assumption) (by omega)) | (with_reducible refine RdU.up (RdB.u (by assumption)) (by omega)) | (with_reducible refine RdU.drew ?_) | (with_reducible refine RdU.drewN ?_ _) | (with_reducible refine RdU.alloc ?_ _) | (with_reducible refine RdU.setCell ?_ ?_ _) | (with_reducible refine RdU.below ?_ (by assumption)) | omega | (focus (simp; done)) | (focus (simp; omega))))); rintro e w5 ⟨v5, rfl, hv5, hu5, hr5, ho5⟩; have hz5 := ho5.size; (try simp at hz5); have R5 := Blk.liftO R4 ho5 (by repeat (first | (with_reducible exact R4) | (with_reducible refine Blk.drew ?_) | (with_reducible refine Blk.drewN ?_ _) | (with_reducible refine Blk.alloc ?_ _) | (with_reducible refine Blk.far ?_ ?_ _) | omega | (focus (simp; done)) | (focus (simp; omega)))) (by first | omega | (simp; done) | (simp; omega)); (try simp only [World.size_alloc, List.setIfInBounds_toArray, List.set_cons_zero, List.set_cons_succ] at R5); have R5l := R5.lt; (try simp only [World.size_alloc] at R5l); have X5 := (X4.set_ 1 _).grown ho5 (by first | omega | (simp; done) | (simp; omega)); (try simp only [World.size_alloc, List.setIfInBounds_toArray, List.set_cons_zero, List.set_cons_succ] at X5); have X5l := X5.lt; (try simp only [World.size_alloc] at X5l); have X5c0 := X5.cellv 0 rfl; have X5c1 := X5.cellv 1 rfl; have X5c2 := X5.cellv 2 rfl; have X5c3 := X5.cellv 3 rfl; have X5f0 := X5.frozen 0; have X5f1 := X5.frozen 1; have X5f2 := X5.frozen 2; have X5f3 := X5.frozen 3
  have own5 := own_only (own_setb own4 X4 (by decide) 1 (.int .i64 (1 + v4))) ho5 (by omega)
  have g5 := only_trans (only_setCell g4 (p := ⟨w3.heap.size, 1, none⟩) (.inr (by simp; omega)) (.int .i64 (1 + v4))) ho5
  obtain ⟨N, rfl⟩ := Int.eq_ofNat_of_zero_le hv5
  have hN : N ≤ 6 := by omega
  have hm0 : 1 ≤ 1 + v1 := by omega
  have hm1 : 1 + v1 ≤ 6 := by omega
  have hX0 : w.heap.size < w3.heap.size := by omega
  generalize (1 + v1 : Int) = room at *
  have hwr : IntKind.i64.wrap (room + 1) = room + 1 := by rw [IntKind.wrap_i64]; omega
  generalize (1 + v4 : Int) = tr at *
  generalize (v2 == 0) = lo at *
  go_wp2
  go_loopw [5] (fun i wr => ∃ (k : Nat) (A : Option Addr) (c : Nat) (ys : List (Int × Int)), k ≤ N ∧ i = .int .i64 k ∧ Blk wr w.heap.size 43 #[.int .i64 0, .int .i64 0, .slice none 0 0, .bool false, .int .i64 0] ∧ Blk wr w3.heap.size 43 #[.int .i64 room, .int .i64 tr, .slice A k c, .bool lo, .int .i64 v3] ∧ wr.ownsRow (w.heap.size + 1) 64 2 (.slice A k c) k (gotCells ys) ∧ RdU wr rb (p + 5 + 4 * k) ∧ w.grownBy wr (some rb)) (fun i _ => N - (intOf i).toNat)
  case atStart => exact ⟨0, _, 0, [], Nat.zero_le _, rfl, R5, X5, own5, hr5, g5⟩
  case round =>
    clear R1 R2 R3 R4 R5 X4 X5 e1 own2 own3 own4 own5 g1 g2 g3 g4 g5 hr1 hr2 hr3 hr4 hr5 ho1 ho2 ho3 ho4 ho5 R1l R2l R3l R4l R5l X4l X5l X4c0 X4c1 X4c2 X4c3 X4f0 X4f1 X4f2 X4f3 X5c0 X5c1 X5c2 X5c3 X5f0 X5f1 X5f2 X5f3 hz1 hz2 hz3 hz4 hz5 hv1 hu1 hv2 hu2 hv4 hu4 hv5 hu5
    obtain ⟨k, A, c, ys, hk, rfl, hR, hX, hown, hr, hg⟩ := hrel
    have x1 := hX.cellv 2 rfl
    have hRl := hR.lt
    have hXl := hX.lt
    by_cases hlt2 : k < N
    · go_wp2
      refine wp_region_any (by kernel_rfl) ?_
      change wpAny _ _ _ _ _ _ _ (World.drew _)
      refine wpAny_take (i := 0) (v := ?_) rfl (by kernel_rfl) (by kernel_rfl) (by kernel_rfl) (fun _ _ _ h => h) (Or.inl ⟨by rfl, ?_⟩) ?_
      rotate_left 1
      · (intro w; first | (go_simp; done) | (go_simp; with_reducible rfl))
      refine wpAny_take (i := 2) (v := ?_) rfl (by kernel_rfl) (by kernel_rfl) (by kernel_rfl) (fun _ _ _ h => h) (Or.inl ⟨by rfl, ?_⟩) ?_
      rotate_left 1
      · (intro w; first | (go_simp; done) | (go_simp; with_reducible rfl))
      refine wpAny_ready (rs := [1, 3]) (by kernel_rfl) (by simp) ?_
      refine AllReady.cons rfl (fun K hK => ?_) ?_
      · go_simp
        refine hK _ _ ?_
        refine wpAny_ready (rs := [3]) (by kernel_rfl) (by simp) ?_
        refine AllReady.cons rfl (fun K hK => ?_) AllReady.nil
        go_simp
        (with_reducible refine (l91Got_any rb (p + 5 + 4 * k) _ ?_ (by omega)).mono ?_); (exact (by repeat (first | (with_reducible refine RdU.up (by assumption) (by omega)) | (with_reducible refine Rd.up (by assumption) (by omega)) | (with_reducible refine RdU.up (RdB.u (by assumption)) (by omega)) | (with_reducible refine RdU.drew ?_) | (with_reducible refine RdU.drewN ?_ _) | (with_reducible refine RdU.alloc ?_ _) | (with_reducible refine RdU.setCell ?_ ?_ _) | (with_reducible refine RdU.below ?_ (by assumption)) | omega | (focus (simp; done)) | (focus (simp; omega))))); rintro e w6 ⟨x6, y6, rfl, hr6, ho6⟩
        have X6 := hX.drew.grown ho6 (by simp; omega)
        have own6 := own_only (World.ownsRow.drew hown) ho6 (by omega)
        have R6 := hR.drew.grown ho6 (by simp; omega)
        have c6 := X6.cellv 2 rfl
        have X6l := X6.lt
        go_wp2
        refine wpAny_ready (rs := [4]) (by kernel_rfl) (by simp) ?_
        refine AllReady.cons rfl (fun K hK => ?_) AllReady.nil
        go_simp
        refine hK _ _ ?_
        refine wpAny_ready (rs := [5]) (by kernel_rfl) (by simp) ?_
        refine AllReady.cons rfl (fun K hK => ?_) AllReady.nil
        refine step_appG (own6.alloc _) (Gots.one (Blk.new _ _ _)) rfl (.tmp 33) (.tmp 36) rfl rfl rfl (k + 1) rfl (by omega) (by simp; omega) ?_; intro A7 c7 w7 own7 ho7 hat7 hc7 hd7
        have X7 := (X6.alloc _).grownb (own6.alloc _) (by decide) ho7
        have R7 := (R6.alloc _).grownb (own6.alloc _) (by decide) ho7
        have r7 := (hr6.alloc _).grown ho7 (fun g hg => by have := (own6.lt g hg).1; omega)
        have g7 := only_own (only_alloc (only_trans (only_drew hg) ho6) _) ho7 (fun g hg => .inr (by have := (own6.lt g hg).1; omega))
        have x7 := X7.cellv 2 rfl
        have f7 := X7.frozen 2
        refine hK _ _ ?_
        refine wpAny_ready (rs := [6]) (by kernel_rfl) (by simp) ?_
        refine AllReady.cons rfl (fun K hK => ?_) AllReady.nil
        go_simp
        refine hK _ _ ?_
        refine wpAny_ready (rs := [7]) (by kernel_rfl) (by simp) ?_
        refine AllReady.cons rfl (fun K hK => ?_) AllReady.nil
        go_simp
        refine hK _ _ ?_
        refine wpAny_done (by kernel_rfl) ?_ _
        go_wp2
        go_roundw
        case rel => exact ⟨k + 1, A7, c7, ys ++ [(x6, y6)], by omega, by go_num, R7.far (by simp; omega) _, Blk.to2 (X7.set_ 2 _) (by simp), own_setb own7 X7 (by decide) 2 _, (r7.setCell (by simp; omega) _).up (by omega), only_setCell g7 (.inr (by simp; omega)) _⟩
        case measure => simp [intOf]; omega
      refine AllReady.cons rfl (fun K hK => ?_) AllReady.nil
      go_simp
      (with_reducible refine (l91Got_any rb (p + 5 + 4 * k) _ ?_ (by omega)).mono ?_); (exact (by repeat (first | (with_reducible refine RdU.up (by assumption) (by omega)) | (with_reducible refine Rd.up (by assumption) (by omega)) | (with_reducible refine RdU.up (RdB.u (by assumption)) (by omega)) | (with_reducible refine RdU.drew ?_) | (with_reducible refine RdU.drewN ?_ _) | (with_reducible refine RdU.alloc ?_ _) | (with_reducible refine RdU.setCell ?_ ?_ _) | (with_reducible refine RdU.below ?_ (by assumption)) | omega | (focus (simp; done)) | (focus (simp; omega))))); rintro e w6 ⟨x6, y6, rfl, hr6, ho6⟩
      have X6 := hX.drew.grown ho6 (by simp; omega)
      have own6 := own_only (World.ownsRow.drew hown) ho6 (by omega)
      have R6 := hR.drew.grown ho6 (by simp; omega)
      have c6 := X6.cellv 2 rfl
      have X6l := X6.lt
      go_wp2
      refine wpAny_ready (rs := [1, 4]) (by kernel_rfl) (by simp) ?_
      refine AllReady.cons rfl (fun K hK => ?_) ?_
      · go_simp
        refine hK _ _ ?_
        refine wpAny_ready (rs := [4]) (by kernel_rfl) (by simp) ?_
        refine AllReady.cons rfl (fun K hK => ?_) AllReady.nil
        go_simp
        refine hK _ _ ?_
        refine wpAny_ready (rs := [5]) (by kernel_rfl) (by simp) ?_
        refine AllReady.cons rfl (fun K hK => ?_) AllReady.nil
        refine step_appG (own6.alloc _) (Gots.one (Blk.new _ _ _)) rfl (.tmp 33) (.tmp 36) rfl rfl rfl (k + 1) rfl (by omega) (by simp; omega) ?_; intro A7 c7 w7 own7 ho7 hat7 hc7 hd7
        have X7 := (X6.alloc _).grownb (own6.alloc _) (by decide) ho7
        have R7 := (R6.alloc _).grownb (own6.alloc _) (by decide) ho7
        have r7 := (hr6.alloc _).grown ho7 (fun g hg => by have := (own6.lt g hg).1; omega)
        have g7 := only_own (only_alloc (only_trans (only_drew hg) ho6) _) ho7 (fun g hg => .inr (by have := (own6.lt g hg).1; omega))
        have x7 := X7.cellv 2 rfl
        have f7 := X7.frozen 2
        refine hK _ _ ?_
        refine wpAny_ready (rs := [6]) (by kernel_rfl) (by simp) ?_
        refine AllReady.cons rfl (fun K hK => ?_) AllReady.nil
        go_simp
        refine hK _ _ ?_
        refine wpAny_ready (rs := [7]) (by kernel_rfl) (by simp) ?_
        refine AllReady.cons rfl (fun K hK => ?_) AllReady.nil
        go_simp
        refine hK _ _ ?_
        refine wpAny_done (by kernel_rfl) ?_ _
        go_wp2
        go_roundw
        case rel => exact ⟨k + 1, A7, c7, ys ++ [(x6, y6)], by omega, by go_num, R7.far (by simp; omega) _, Blk.to2 (X7.set_ 2 _) (by simp), own_setb own7 X7 (by decide) 2 _, (r7.setCell (by simp; omega) _).up (by omega), only_setCell g7 (.inr (by simp; omega)) _⟩
        case measure => simp [intOf]; omega
      refine AllReady.cons rfl (fun K hK => ?_) AllReady.nil
      go_simp
      refine hK _ _ ?_
      refine wpAny_ready (rs := [1]) (by kernel_rfl) (by simp) ?_
      refine AllReady.cons rfl (fun K hK => ?_) AllReady.nil
      go_simp
      refine hK _ _ ?_
      refine wpAny_ready (rs := [5]) (by kernel_rfl) (by simp) ?_
      refine AllReady.cons rfl (fun K hK => ?_) AllReady.nil
      refine step_appG (own6.alloc _) (Gots.one (Blk.new _ _ _)) rfl (.tmp 33) (.tmp 36) rfl rfl rfl (k + 1) rfl (by omega) (by simp; omega) ?_; intro A7 c7 w7 own7 ho7 hat7 hc7 hd7
      have X7 := (X6.alloc _).grownb (own6.alloc _) (by decide) ho7
      have R7 := (R6.alloc _).grownb (own6.alloc _) (by decide) ho7
      have r7 := (hr6.alloc _).grown ho7 (fun g hg => by have := (own6.lt g hg).1; omega)
      have g7 := only_own (only_alloc (only_trans (only_drew hg) ho6) _) ho7 (fun g hg => .inr (by have := (own6.lt g hg).1; omega))
      have x7 := X7.cellv 2 rfl
      have f7 := X7.frozen 2
      refine hK _ _ ?_
      refine wpAny_ready (rs := [6]) (by kernel_rfl) (by simp) ?_
      refine AllReady.cons rfl (fun K hK => ?_) AllReady.nil
      go_simp
      refine hK _ _ ?_
      refine wpAny_ready (rs := [7]) (by kernel_rfl) (by simp) ?_
      refine AllReady.cons rfl (fun K hK => ?_) AllReady.nil
      go_simp
      refine hK _ _ ?_
      refine wpAny_done (by kernel_rfl) ?_ _
      go_wp2
      go_roundw
      case rel => exact ⟨k + 1, A7, c7, ys ++ [(x6, y6)], by omega, by go_num, R7.far (by simp; omega) _, Blk.to2 (X7.set_ 2 _) (by simp), own_setb own7 X7 (by decide) 2 _, (r7.setCell (by simp; omega) _).up (by omega), only_setCell g7 (.inr (by simp; omega)) _⟩
      case measure => simp [intOf]; omega
    · obtain rfl : k = N := by omega
      obtain ⟨q, hq⟩ : ∃ q, q = p + 5 + 4 * k + 1 := ⟨_, rfl⟩
      go_wp2_with fail
      (with_reducible refine (pick_U rb (p + 5 + 4 * k) 30 _ ?_ (by omega) (by omega)).mono ?_); (exact (by repeat (first | (with_reducible refine RdU.up (by assumption) (by omega)) | (with_reducible refine Rd.up (by assumption) (by omega)) | (with_reducible refine RdU.up (RdB.u (by assumption)) (by omega)) | (with_reducible refine RdU.drew ?_) | (with_reducible refine RdU.drewN ?_ _) | (with_reducible refine RdU.alloc ?_ _) | (with_reducible refine RdU.setCell ?_ ?_ _) | (with_reducible refine RdU.below ?_ (by assumption)) | omega | (focus (simp; done)) | (focus (simp; omega))))); rintro e w10 ⟨v10, rfl, hv10, hu10, hr10, ho10⟩; have hz10 := ho10.size; (try simp at hz10); have R10 := Blk.liftO hR ho10 (by repeat (first | (with_reducible exact hR) | (with_reducible refine Blk.drew ?_) | (with_reducible refine Blk.drewN ?_ _) | (with_reducible refine Blk.alloc ?_ _) | (with_reducible refine Blk.far ?_ ?_ _) | omega | (focus (simp; done)) | (focus (simp; omega)))) (by first | omega | (simp; done) | (simp; omega)); (try simp only [World.size_alloc, List.setIfInBounds_toArray, List.set_cons_zero, List.set_cons_succ] at R10); have R10l := R10.lt; (try simp only [World.size_alloc] at R10l); have R10c0 := R10.cellv 0 rfl; have R10c1 := R10.cellv 1 rfl; have R10c2 := R10.cellv 2 rfl; have R10c3 := R10.cellv 3 rfl; have R10c4 := R10.cellv 4 rfl; have R10f0 := R10.frozen 0; have R10f1 := R10.frozen 1; have R10f2 := R10.frozen 2; have R10f3 := R10.frozen 3; have R10f4 := R10.frozen 4; have X10 := Blk.liftO hX ho10 (by repeat (first | (with_reducible exact hX) | (with_reducible refine Blk.drew ?_) | (with_reducible refine Blk.drewN ?_ _) | (with_reducible refine Blk.alloc ?_ _) | (with_reducible refine Blk.far ?_ ?_ _) | omega | (focus (simp; done)) | (focus (simp; omega)))) (by first | omega | (simp; done) | (simp; omega)); (try simp only [World.size_alloc, List.setIfInBounds_toArray, List.set_cons_zero, List.set_cons_succ] at X10); have X10l := X10.lt; (try simp only [World.size_alloc] at X10l); have X10c0 := X10.cellv 0 rfl; have X10c1 := X10.cellv 1 rfl; have X10c2 := X10.cellv 2 rfl; have X10c3 := X10.cellv 3 rfl; have X10c4 := X10.cellv 4 rfl; have X10f0 := X10.frozen 0; have X10f1 := X10.frozen 1; have X10f2 := X10.frozen 2; have X10f3 := X10.frozen 3; have X10f4 := X10.frozen 4
      have own10 := own_only hown ho10 (by omega)
      have g10 := only_trans hg ho10
      have hr10q : RdU w10 rb q := hr10.up (by omega)
      have hq2 : q ≤ p + 30 := by omega
      clear hq hr10
      by_cases q0 : v10 = 0
      · subst q0
        go_wp2
        refine wp_region_any (by kernel_rfl) ?_
        change wpAny _ _ _ _ _ _ _ (World.drew _)
        refine wpAny_take (i := 0) (v := ?_) rfl (by kernel_rfl) (by kernel_rfl) (by kernel_rfl) (fun _ _ _ h => h) (Or.inl ⟨by rfl, ?_⟩) ?_
        rotate_left 1
        · (intro w; first | (go_simp; done) | (go_simp; with_reducible rfl))
        refine wpAny_take (i := 4) (v := ?_) rfl (by kernel_rfl) (by kernel_rfl) (by kernel_rfl) (fun _ _ _ h => h) (Or.inl ⟨by rfl, ?_⟩) ?_
        rotate_left 1
        · (intro w; first | (go_simp; done) | (go_simp; with_reducible rfl))
        refine wpAny_ready (rs := [1, 5]) (by kernel_rfl) (by simp) ?_
        refine AllReady.cons rfl (fun K hK => ?_) ?_
        · go_simp
          refine hK _ _ ?_
          refine wpAny_take (i := 2) (v := ?_) rfl (by kernel_rfl) (by kernel_rfl) (by kernel_rfl) (fun _ _ _ h => h) (Or.inl ⟨by rfl, ?_⟩) ?_
          rotate_left 1
          · (intro w; first | (go_simp; done) | (go_simp; with_reducible rfl))
          refine wpAny_ready (rs := [3, 5]) (by kernel_rfl) (by simp) ?_
          refine AllReady.cons rfl (fun K hK => ?_) ?_
          · go_simp
            refine hK _ _ ?_
            refine wpAny_ready (rs := [5]) (by kernel_rfl) (by simp) ?_
            refine AllReady.cons rfl (fun K hK => ?_) AllReady.nil
            go_simp
            (with_reducible refine (pick_U rb q 2 _ ?_ (by omega) (by omega)).mono ?_); (exact (by repeat (first | (with_reducible refine RdU.up (by assumption) (by omega)) | (with_reducible refine Rd.up (by assumption) (by omega)) | (with_reducible refine RdU.up (RdB.u (by assumption)) (by omega)) | (with_reducible refine RdU.drew ?_) | (with_reducible refine RdU.drewN ?_ _) | (with_reducible refine RdU.alloc ?_ _) | (with_reducible refine RdU.setCell ?_ ?_ _) | (with_reducible refine RdU.below ?_ (by assumption)) | omega | (focus (simp; done)) | (focus (simp; omega))))); rintro e w11 ⟨v11, rfl, hv11, hu11, hr11, ho11⟩
            have X11 := ((X10.alloc _).drew).grown ho11 (by simp; omega)
            have R11 := ((R10.alloc _).drew).grown ho11 (by simp; omega)
            have own11 := own_only (World.ownsRow.drew (own10.alloc _)) ho11 (by omega)
            have g11 := only_trans (only_drew (only_alloc g10 _)) ho11
            have c11 := X11.cellv 0 rfl
            have f11 := X11.frozen 1
            have e11 := X11.cellv 1 rfl
            have X11l := X11.lt
            obtain ⟨x, hx, _⟩ := nth_of [0, room + 1] ((Blk.newd _ _ _).grown ho11 (by simp; omega)) hv11 hu11
            go_wp2
            refine wpAny_ready (rs := [6]) (by kernel_rfl) (by simp) ?_
            refine AllReady.cons rfl (fun K hK => ?_) AllReady.nil
            go_simp
            refine hK _ _ ?_
            refine wpAny_ready (rs := [7]) (by kernel_rfl) (by simp) ?_
            refine AllReady.cons rfl (fun K hK => ?_) AllReady.nil
            go_simp
            refine hK _ _ ?_
            refine wpAny_ready (rs := [8]) (by kernel_rfl) (by simp) ?_
            refine AllReady.cons rfl (fun K hK => ?_) AllReady.nil
            go_simp
            refine hK _ _ ?_
            refine wpAny_ready (rs := [9]) (by kernel_rfl) (by simp) ?_
            refine AllReady.cons rfl (fun K hK => ?_) AllReady.nil
            go_simp
            refine hK _ _ ?_
            refine wpAny_done (by kernel_rfl) ?_ _
            have ownz := own_setb own11 X11 (by decide) 1 (.int .i64 x)
            have Xz := X11.set_ 1 (.int .i64 x)
            have Rz := R11.far (show w.heap.size ≠ w3.heap.size by omega) (p := ⟨w3.heap.size, 1, none⟩) (.int .i64 x)
            (try simp only [List.setIfInBounds_toArray, List.set_cons_zero, List.set_cons_succ] at Xz)
            have y0 := Xz.cellv 0 rfl
            have y1 := Xz.cellv 1 rfl
            have y2 := Xz.cellv 2 rfl
            have y3 := Xz.cellv 3 rfl
            have y4 := Xz.cellv 4 rfl
            have u0 := Rz.cellv 0 rfl
            have u1 := Rz.cellv 1 rfl
            have u2 := Rz.cellv 2 rfl
            have u3 := Rz.cellv 3 rfl
            have u4 := Rz.cellv 4 rfl
            have k0 := Rz.frozen 0
            have k1 := Rz.frozen 1
            have k2 := Rz.frozen 2
            have k3 := Rz.frozen 3
            have k4 := Rz.frozen 4
            have Rzl := Rz.lt
            have Xzl := Xz.lt
            go_wp2
            exact bodyPost_ret (by simp [results, Try.results71, go_sem, *]; repeat (first | exact rfl | refine And.intro ?_ ?_)) rfl ⟨_, _, _, _, A, _, c, ys, rfl, (own_mono_ (own_lift_ ownz (by repeat (first | (with_reducible exact ownz) | (with_reducible refine own_set ?_ ?_ _) | (with_reducible refine World.ownsRow.alloc ?_ _) | (with_reducible refine own_below_ ?_ (by assumption)) | (with_reducible refine own_only ?_ (by assumption) ?_) | omega | (focus (simp; done)) | (focus (simp; omega))))) (by first | omega | (simp; done) | (simp; omega))), by omega, (by repeat (first | (with_reducible refine RdU.up (by assumption) (by omega)) | (with_reducible refine Rd.up (by assumption) (by omega)) | (with_reducible refine RdU.up (RdB.u (by assumption)) (by omega)) | (with_reducible refine RdU.drew ?_) | (with_reducible refine RdU.drewN ?_ _) | (with_reducible refine RdU.alloc ?_ _) | (with_reducible refine RdU.setCell ?_ ?_ _) | (with_reducible refine RdU.below ?_ (by assumption)) | omega | (focus (simp; done)) | (focus (simp; omega)))), (by repeat (first | (with_reducible exact only_refl _ _) | (with_reducible refine only_drew ?_) | (with_reducible refine only_drewN ?_ _) | (with_reducible refine only_alloc ?_ _) | (with_reducible refine only_setCell ?_ (.inl rfl) _) | (with_reducible refine only_setCell ?_ (.inr ?_) _) | (with_reducible refine only_below ?_ (by assumption)) | (with_reducible refine only_trans ?_ (by assumption)) | omega | (focus (simp; done)) | (focus (simp; omega))))⟩
          refine AllReady.cons rfl (fun K hK => ?_) AllReady.nil
          go_simp
          (with_reducible refine (pick_U rb q 2 _ ?_ (by omega) (by omega)).mono ?_); (exact (by repeat (first | (with_reducible refine RdU.up (by assumption) (by omega)) | (with_reducible refine Rd.up (by assumption) (by omega)) | (with_reducible refine RdU.up (RdB.u (by assumption)) (by omega)) | (with_reducible refine RdU.drew ?_) | (with_reducible refine RdU.drewN ?_ _) | (with_reducible refine RdU.alloc ?_ _) | (with_reducible refine RdU.setCell ?_ ?_ _) | (with_reducible refine RdU.below ?_ (by assumption)) | omega | (focus (simp; done)) | (focus (simp; omega))))); rintro e w11 ⟨v11, rfl, hv11, hu11, hr11, ho11⟩
          have X11 := (X10.drew).grown ho11 (by simp; omega)
          have R11 := (R10.drew).grown ho11 (by simp; omega)
          have own11 := own_only (World.ownsRow.drew own10) ho11 (by omega)
          have g11 := only_trans (only_drew g10) ho11
          have c11 := X11.cellv 0 rfl
          have f11 := X11.frozen 1
          have e11 := X11.cellv 1 rfl
          have X11l := X11.lt
          go_wp2
          refine wpAny_ready (rs := [3]) (by kernel_rfl) (by simp) ?_
          refine AllReady.cons rfl (fun K hK => ?_) AllReady.nil
          go_simp
          refine hK _ _ ?_
          obtain ⟨x, hx, _⟩ := nth_of [0, room + 1] (Blk.new w11 _ _) hv11 hu11
          have X12 := X11.alloc (.cells #[.int .i64 0, .int .i64 (room + 1)] 3)
          have R12 := R11.alloc (.cells #[.int .i64 0, .int .i64 (room + 1)] 3)
          have own12 := own11.alloc (.cells #[.int .i64 0, .int .i64 (room + 1)] 3)
          have hr12 := hr11.alloc (.cells #[.int .i64 0, .int .i64 (room + 1)] 3)
          have g12 := only_alloc g11 (.cells #[.int .i64 0, .int .i64 (room + 1)] 3)
          have hx2 : (w11.alloc (.cells #[.int .i64 0, .int .i64 (room + 1)] 3)).cell? ⟨w11.heap.size, v11.toNat, none⟩ = some (.int .i64 x) := hx
          clear hx
          generalize w11.alloc (.cells #[.int .i64 0, .int .i64 (room + 1)] 3) = w12 at *
          have e12 := X12.cellv 1 rfl
          have f12 := X12.frozen 1
          clear X11 R11 own11 hr11 g11 ho11 c11 e11 f11 X11l
          refine wpAny_ready (rs := [6]) (by kernel_rfl) (by simp) ?_
          refine AllReady.cons rfl (fun K hK => ?_) AllReady.nil
          go_simp
          refine hK _ _ ?_
          refine wpAny_ready (rs := [7]) (by kernel_rfl) (by simp) ?_
          refine AllReady.cons rfl (fun K hK => ?_) AllReady.nil
          go_simp
          refine hK _ _ ?_
          refine wpAny_ready (rs := [8]) (by kernel_rfl) (by simp) ?_
          refine AllReady.cons rfl (fun K hK => ?_) AllReady.nil
          go_simp
          refine hK _ _ ?_
          refine wpAny_ready (rs := [9]) (by kernel_rfl) (by simp) ?_
          refine AllReady.cons rfl (fun K hK => ?_) AllReady.nil
          go_simp
          refine hK _ _ ?_
          refine wpAny_done (by kernel_rfl) ?_ _
          have ownz := own_setb own12 X12 (by decide) 1 (.int .i64 x)
          have Xz := X12.set_ 1 (.int .i64 x)
          have Rz := R12.far (show w.heap.size ≠ w3.heap.size by omega) (p := ⟨w3.heap.size, 1, none⟩) (.int .i64 x)
          (try simp only [List.setIfInBounds_toArray, List.set_cons_zero, List.set_cons_succ] at Xz)
          have y0 := Xz.cellv 0 rfl
          have y1 := Xz.cellv 1 rfl
          have y2 := Xz.cellv 2 rfl
          have y3 := Xz.cellv 3 rfl
          have y4 := Xz.cellv 4 rfl
          have u0 := Rz.cellv 0 rfl
          have u1 := Rz.cellv 1 rfl
          have u2 := Rz.cellv 2 rfl
          have u3 := Rz.cellv 3 rfl
          have u4 := Rz.cellv 4 rfl
          have k0 := Rz.frozen 0
          have k1 := Rz.frozen 1
          have k2 := Rz.frozen 2
          have k3 := Rz.frozen 3
          have k4 := Rz.frozen 4
          have Rzl := Rz.lt
          have Xzl := Xz.lt
          go_wp2
          exact bodyPost_ret (by simp [results, Try.results71, go_sem, *]; repeat (first | exact rfl | refine And.intro ?_ ?_)) rfl ⟨_, _, _, _, A, _, c, ys, rfl, (own_mono_ (own_lift_ ownz (by repeat (first | (with_reducible exact ownz) | (with_reducible refine own_set ?_ ?_ _) | (with_reducible refine World.ownsRow.alloc ?_ _) | (with_reducible refine own_below_ ?_ (by assumption)) | (with_reducible refine own_only ?_ (by assumption) ?_) | omega | (focus (simp; done)) | (focus (simp; omega))))) (by first | omega | (simp; done) | (simp; omega))), by omega, (by repeat (first | (with_reducible refine RdU.up (by assumption) (by omega)) | (with_reducible refine Rd.up (by assumption) (by omega)) | (with_reducible refine RdU.up (RdB.u (by assumption)) (by omega)) | (with_reducible refine RdU.drew ?_) | (with_reducible refine RdU.drewN ?_ _) | (with_reducible refine RdU.alloc ?_ _) | (with_reducible refine RdU.setCell ?_ ?_ _) | (with_reducible refine RdU.below ?_ (by assumption)) | omega | (focus (simp; done)) | (focus (simp; omega)))), (by repeat (first | (with_reducible exact only_refl _ _) | (with_reducible refine only_drew ?_) | (with_reducible refine only_drewN ?_ _) | (with_reducible refine only_alloc ?_ _) | (with_reducible refine only_setCell ?_ (.inl rfl) _) | (with_reducible refine only_setCell ?_ (.inr ?_) _) | (with_reducible refine only_below ?_ (by assumption)) | (with_reducible refine only_trans ?_ (by assumption)) | omega | (focus (simp; done)) | (focus (simp; omega))))⟩
        refine AllReady.cons rfl (fun K hK => ?_) AllReady.nil
        go_simp
        (with_reducible refine (pick_U rb q 2 _ ?_ (by omega) (by omega)).mono ?_); (exact (by repeat (first | (with_reducible refine RdU.up (by assumption) (by omega)) | (with_reducible refine Rd.up (by assumption) (by omega)) | (with_reducible refine RdU.up (RdB.u (by assumption)) (by omega)) | (with_reducible refine RdU.drew ?_) | (with_reducible refine RdU.drewN ?_ _) | (with_reducible refine RdU.alloc ?_ _) | (with_reducible refine RdU.setCell ?_ ?_ _) | (with_reducible refine RdU.below ?_ (by assumption)) | omega | (focus (simp; done)) | (focus (simp; omega))))); rintro e w11 ⟨v11, rfl, hv11, hu11, hr11, ho11⟩
        have X11 := (X10.drew).grown ho11 (by simp; omega)
        have R11 := (R10.drew).grown ho11 (by simp; omega)
        have own11 := own_only (World.ownsRow.drew own10) ho11 (by omega)
        have g11 := only_trans (only_drew g10) ho11
        have c11 := X11.cellv 0 rfl
        have f11 := X11.frozen 1
        have e11 := X11.cellv 1 rfl
        have X11l := X11.lt
        go_wp2
        refine wpAny_ready (rs := [1]) (by kernel_rfl) (by simp) ?_
        refine AllReady.cons rfl (fun K hK => ?_) AllReady.nil
        go_simp
        refine hK _ _ ?_
        refine wpAny_take (i := 2) (v := ?_) rfl (by kernel_rfl) (by kernel_rfl) (by kernel_rfl) (fun _ _ _ h => h) (Or.inl ⟨by rfl, ?_⟩) ?_
        rotate_left 1
        · (intro w; first | (go_simp; done) | (go_simp; with_reducible rfl))
        refine wpAny_ready (rs := [3]) (by kernel_rfl) (by simp) ?_
        refine AllReady.cons rfl (fun K hK => ?_) AllReady.nil
        go_simp
        refine hK _ _ ?_
        obtain ⟨x, hx, _⟩ := nth_of [0, room + 1] (Blk.new w11 _ _) hv11 hu11
        have X12 := X11.alloc (.cells #[.int .i64 0, .int .i64 (room + 1)] 3)
        have R12 := R11.alloc (.cells #[.int .i64 0, .int .i64 (room + 1)] 3)
        have own12 := own11.alloc (.cells #[.int .i64 0, .int .i64 (room + 1)] 3)
        have hr12 := hr11.alloc (.cells #[.int .i64 0, .int .i64 (room + 1)] 3)
        have g12 := only_alloc g11 (.cells #[.int .i64 0, .int .i64 (room + 1)] 3)
        have hx2 : (w11.alloc (.cells #[.int .i64 0, .int .i64 (room + 1)] 3)).cell? ⟨w11.heap.size, v11.toNat, none⟩ = some (.int .i64 x) := hx
        clear hx
        generalize w11.alloc (.cells #[.int .i64 0, .int .i64 (room + 1)] 3) = w12 at *
        have e12 := X12.cellv 1 rfl
        have f12 := X12.frozen 1
        clear X11 R11 own11 hr11 g11 ho11 c11 e11 f11 X11l
        refine wpAny_ready (rs := [6]) (by kernel_rfl) (by simp) ?_
        refine AllReady.cons rfl (fun K hK => ?_) AllReady.nil
        go_simp
        refine hK _ _ ?_
        refine wpAny_ready (rs := [7]) (by kernel_rfl) (by simp) ?_
        refine AllReady.cons rfl (fun K hK => ?_) AllReady.nil
        go_simp
        refine hK _ _ ?_
        refine wpAny_ready (rs := [8]) (by kernel_rfl) (by simp) ?_
        refine AllReady.cons rfl (fun K hK => ?_) AllReady.nil
        go_simp
        refine hK _ _ ?_
        refine wpAny_ready (rs := [9]) (by kernel_rfl) (by simp) ?_
        refine AllReady.cons rfl (fun K hK => ?_) AllReady.nil
        go_simp
        refine hK _ _ ?_
        refine wpAny_done (by kernel_rfl) ?_ _
        have ownz := own_setb own12 X12 (by decide) 1 (.int .i64 x)
        have Xz := X12.set_ 1 (.int .i64 x)
        have Rz := R12.far (show w.heap.size ≠ w3.heap.size by omega) (p := ⟨w3.heap.size, 1, none⟩) (.int .i64 x)
        (try simp only [List.setIfInBounds_toArray, List.set_cons_zero, List.set_cons_succ] at Xz)
        have y0 := Xz.cellv 0 rfl
        have y1 := Xz.cellv 1 rfl
        have y2 := Xz.cellv 2 rfl
        have y3 := Xz.cellv 3 rfl
        have y4 := Xz.cellv 4 rfl
        have u0 := Rz.cellv 0 rfl
        have u1 := Rz.cellv 1 rfl
        have u2 := Rz.cellv 2 rfl
        have u3 := Rz.cellv 3 rfl
        have u4 := Rz.cellv 4 rfl
        have k0 := Rz.frozen 0
        have k1 := Rz.frozen 1
        have k2 := Rz.frozen 2
        have k3 := Rz.frozen 3
        have k4 := Rz.frozen 4
        have Rzl := Rz.lt
        have Xzl := Xz.lt
        go_wp2
        exact bodyPost_ret (by simp [results, Try.results71, go_sem, *]; repeat (first | exact rfl | refine And.intro ?_ ?_)) rfl ⟨_, _, _, _, A, _, c, ys, rfl, (own_mono_ (own_lift_ ownz (by repeat (first | (with_reducible exact ownz) | (with_reducible refine own_set ?_ ?_ _) | (with_reducible refine World.ownsRow.alloc ?_ _) | (with_reducible refine own_below_ ?_ (by assumption)) | (with_reducible refine own_only ?_ (by assumption) ?_) | omega | (focus (simp; done)) | (focus (simp; omega))))) (by first | omega | (simp; done) | (simp; omega))), by omega, (by repeat (first | (with_reducible refine RdU.up (by assumption) (by omega)) | (with_reducible refine Rd.up (by assumption) (by omega)) | (with_reducible refine RdU.up (RdB.u (by assumption)) (by omega)) | (with_reducible refine RdU.drew ?_) | (with_reducible refine RdU.drewN ?_ _) | (with_reducible refine RdU.alloc ?_ _) | (with_reducible refine RdU.setCell ?_ ?_ _) | (with_reducible refine RdU.below ?_ (by assumption)) | omega | (focus (simp; done)) | (focus (simp; omega)))), (by repeat (first | (with_reducible exact only_refl _ _) | (with_reducible refine only_drew ?_) | (with_reducible refine only_drewN ?_ _) | (with_reducible refine only_alloc ?_ _) | (with_reducible refine only_setCell ?_ (.inl rfl) _) | (with_reducible refine only_setCell ?_ (.inr ?_) _) | (with_reducible refine only_below ?_ (by assumption)) | (with_reducible refine only_trans ?_ (by assumption)) | omega | (focus (simp; done)) | (focus (simp; omega))))⟩
      have z0 : (v10 == 0) = false := by simpa using q0
      by_cases q1 : v10 = 1
      · subst q1
        go_wp2_with (go_at_call_of 31 (Value.int IntKind.i64 3); go_must ((with_reducible refine (pick_U rb (q) 3 _ ?_ (by omega) (by omega)).mono ?_); (exact (by repeat (first | (with_reducible refine RdU.up (by assumption) (by omega)) | (with_reducible refine Rd.up (by assumption) (by omega)) | (with_reducible refine RdU.up (RdB.u (by assumption)) (by omega)) | (with_reducible refine RdU.drew ?_) | (with_reducible refine RdU.drewN ?_ _) | (with_reducible refine RdU.alloc ?_ _) | (with_reducible refine RdU.setCell ?_ ?_ _) | (with_reducible refine RdU.below ?_ (by assumption)) | omega | (focus (simp; done)) | (focus (simp; omega))))); rintro e w11 ⟨v11, rfl, hv11, hu11, hr11, ho11⟩; have hz11 := ho11.size; (try simp at hz11); have R11 := Blk.liftO R10 ho11 (by repeat (first | (with_reducible exact R10) | (with_reducible refine Blk.drew ?_) | (with_reducible refine Blk.drewN ?_ _) | (with_reducible refine Blk.alloc ?_ _) | (with_reducible refine Blk.far ?_ ?_ _) | omega | (focus (simp; done)) | (focus (simp; omega)))) (by first | omega | (simp; done) | (simp; omega)); (try simp only [World.size_alloc, List.setIfInBounds_toArray, List.set_cons_zero, List.set_cons_succ] at R11); have R11l := R11.lt; (try simp only [World.size_alloc] at R11l); have R11c0 := R11.cellv 0 rfl; have R11c1 := R11.cellv 1 rfl; have R11c2 := R11.cellv 2 rfl; have R11c3 := R11.cellv 3 rfl; have R11c4 := R11.cellv 4 rfl; have R11f0 := R11.frozen 0; have R11f1 := R11.frozen 1; have R11f2 := R11.frozen 2; have R11f3 := R11.frozen 3; have R11f4 := R11.frozen 4; have X11 := Blk.liftO X10 ho11 (by repeat (first | (with_reducible exact X10) | (with_reducible refine Blk.drew ?_) | (with_reducible refine Blk.drewN ?_ _) | (with_reducible refine Blk.alloc ?_ _) | (with_reducible refine Blk.far ?_ ?_ _) | omega | (focus (simp; done)) | (focus (simp; omega)))) (by first | omega | (simp; done) | (simp; omega)); (try simp only [World.size_alloc, List.setIfInBounds_toArray, List.set_cons_zero, List.set_cons_succ] at X11); have X11l := X11.lt; (try simp only [World.size_alloc] at X11l); have X11c0 := X11.cellv 0 rfl; have X11c1 := X11.cellv 1 rfl; have X11c2 := X11.cellv 2 rfl; have X11c3 := X11.cellv 3 rfl; have X11c4 := X11.cellv 4 rfl; have X11f0 := X11.frozen 0; have X11f1 := X11.frozen 1; have X11f2 := X11.frozen 2; have X11f3 := X11.frozen 3; have X11f4 := X11.frozen 4; obtain ⟨x, hx, _⟩ := nth_of [-1, 99, 100] ((Blk.new _ _ _).grown ho11 (by simp; omega)) hv11 hu11; have own11 := own_only (own10.alloc _) ho11 (by omega); have ownz := own_setb own11 X11 (by decide) 4 (.int .i64 x); have g11 := only_trans (only_alloc g10 _) ho11))
        exact bodyPost_ret (by simp [results, Try.results71, go_sem, *]; repeat (first | exact rfl | refine And.intro ?_ ?_)) rfl ⟨_, _, _, _, A, _, c, ys, rfl, (own_mono_ (own_lift_ ownz (by repeat (first | (with_reducible exact ownz) | (with_reducible refine own_set ?_ ?_ _) | (with_reducible refine World.ownsRow.alloc ?_ _) | (with_reducible refine own_below_ ?_ (by assumption)) | (with_reducible refine own_only ?_ (by assumption) ?_) | omega | (focus (simp; done)) | (focus (simp; omega))))) (by first | omega | (simp; done) | (simp; omega))), by omega, (by repeat (first | (with_reducible refine RdU.up (by assumption) (by omega)) | (with_reducible refine Rd.up (by assumption) (by omega)) | (with_reducible refine RdU.up (RdB.u (by assumption)) (by omega)) | (with_reducible refine RdU.drew ?_) | (with_reducible refine RdU.drewN ?_ _) | (with_reducible refine RdU.alloc ?_ _) | (with_reducible refine RdU.setCell ?_ ?_ _) | (with_reducible refine RdU.below ?_ (by assumption)) | omega | (focus (simp; done)) | (focus (simp; omega)))), (by repeat (first | (with_reducible exact only_refl _ _) | (with_reducible refine only_drew ?_) | (with_reducible refine only_drewN ?_ _) | (with_reducible refine only_alloc ?_ _) | (with_reducible refine only_setCell ?_ (.inl rfl) _) | (with_reducible refine only_setCell ?_ (.inr ?_) _) | (with_reducible refine only_below ?_ (by assumption)) | (with_reducible refine only_trans ?_ (by assumption)) | omega | (focus (simp; done)) | (focus (simp; omega))))⟩
      have z1 : (v10 == 1) = false := by simpa using q1
      clear q0 q1
      go_wp2
      exact bodyPost_ret (by simp [results, Try.results71, go_sem, *]; repeat (first | exact rfl | refine And.intro ?_ ?_)) rfl ⟨_, _, _, _, A, _, c, ys, rfl, (own_mono_ (own_lift_ own10 (by repeat (first | (with_reducible exact own10) | (with_reducible refine own_set ?_ ?_ _) | (with_reducible refine World.ownsRow.alloc ?_ _) | (with_reducible refine own_below_ ?_ (by assumption)) | (with_reducible refine own_only ?_ (by assumption) ?_) | omega | (focus (simp; done)) | (focus (simp; omega))))) (by first | omega | (simp; done) | (simp; omega))), by omega, (by repeat (first | (with_reducible refine RdU.up (by assumption) (by omega)) | (with_reducible refine Rd.up (by assumption) (by omega)) | (with_reducible refine RdU.up (RdB.u (by assumption)) (by omega)) | (with_reducible refine RdU.drew ?_) | (with_reducible refine RdU.drewN ?_ _) | (with_reducible refine RdU.alloc ?_ _) | (with_reducible refine RdU.setCell ?_ ?_ _) | (with_reducible refine RdU.below ?_ (by assumption)) | omega | (focus (simp; done)) | (focus (simp; omega)))), (by repeat (first | (with_reducible exact only_refl _ _) | (with_reducible refine only_drew ?_) | (with_reducible refine only_drewN ?_ _) | (with_reducible refine only_alloc ?_ _) | (with_reducible refine only_setCell ?_ (.inl rfl) _) | (with_reducible refine only_setCell ?_ (.inr ?_) _) | (with_reducible refine only_below ?_ (by assumption)) | (with_reducible refine only_trans ?_ (by assumption)) | omega | (focus (simp; done)) | (focus (simp; omega))))⟩
end Go.Proofs.Ytdnjdbafffifeaa

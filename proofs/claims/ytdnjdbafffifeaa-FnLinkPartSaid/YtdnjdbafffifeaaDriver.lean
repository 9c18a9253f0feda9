/-
  DRIVERS AS LISTS OF CELLS WITH THEIR CONTENTS BESIDE: ringValid, countValid, DriverValid (the program's and the reference's), toDriver, eqDriver, szDriver. Condition: at most 2^20 elements.
-/
import Derived.Test.YtdnjdbafffifeaaPortV
set_option linter.unusedVariables false
set_option linter.unusedSimpArgs false
namespace Go.Proofs.Ytdnjdbafffifeaa
open Go.ChangeShapes Go.WideShapes Go.ChangeAt Go.RowKit

structure DriverD where
  (port : PortD)
  (inn out : List Int)
  (wr lo : Int)
def ringOk (xs : List Int) : Bool := decide (xs.length ≤ 32) && bytesOk xs
def DriverD.ok (d : DriverD) : Bool := d.port.ok && ringOk d.inn && ringOk d.out && in_ d.wr 0 999 && in_ d.lo 0 999
def DriverD.small (d : DriverD) : Prop := d.port.small ∧ d.inn.length ≤ 1048576 ∧ d.out.length ≤ 1048576
def DriverD.fits (d : DriverD) : Prop := d.port.fits ∧ d.inn.length ≤ maxLen ∧ d.out.length ≤ maxLen
def listLeft (xs : List Int) (l : Int) : Int := if (xs.length : Int) ≤ l then l - xs.length else -1
theorem listLeft_ok {xs : List Int} {l : Int} (hl : l ≤ 1048576) (h : 0 ≤ listLeft xs l) : xs.length ≤ 1048576 ∧ listLeft xs l ≤ l := by
  unfold listLeft at h ⊢
  split at h
  · rename_i h1
    rw [if_pos h1]
    omega
  · omega
def DriverD.left (d : DriverD) (l : Int) : Int := if d.port.left l < 0 then -1 else if listLeft d.inn (d.port.left l) < 0 then -1 else if listLeft d.out (listLeft d.inn (d.port.left l)) < 0 then -1 else listLeft d.out (listLeft d.inn (d.port.left l))
theorem DriverD.left_ok {d : DriverD} {l : Int} (hl : l ≤ 1048576) (h : 0 ≤ d.left l) : d.small ∧ d.left l ≤ l := by
  unfold DriverD.left at h ⊢
  split at h
  · omega
  · rename_i h1
    split at h
    · omega
    · rename_i h2
      split at h
      · omega
      · rename_i h3
        obtain ⟨s1, k1⟩ := PortD.left_ok hl (Int.not_lt.1 h1)
        obtain ⟨s2, k2⟩ := listLeft_ok (by omega) (Int.not_lt.1 h2)
        obtain ⟨s3, k3⟩ := listLeft_ok (by omega) (Int.not_lt.1 h3)
        rw [if_neg h1, if_neg h2, if_neg h3]
        exact ⟨⟨s1, s2, s3⟩, by omega⟩
def DriverIs (w : World) (cs : List Value) (d : DriverD) : Prop := ∃ (vp : List Value) (IA OA : Option Addr) (ni ci no co : Nat),
  cs = vp ++ [.slice IA ni ci, .slice OA no co, .int .i64 d.wr, .int .i64 d.lo] ∧ PortIs w vp d.port ∧ Ints w IA ni d.inn ∧ Ints w OA no d.out
theorem DriverIs.len {w : World} {cs : List Value} {d : DriverD} (h : DriverIs w cs d) : cs.length = 22 := by
  obtain ⟨vp, IA, OA, ni, ci, no, co, rfl, hp, _⟩ := h
  rw [List.length_append, hp.len]
  rfl
theorem DriverIs.one {w : World} {cs : List Value} {d : DriverD} (h : DriverIs w cs d) : cs.all (·.oneCell') = true := by
  obtain ⟨vp, IA, OA, ni, ci, no, co, rfl, hp, _⟩ := h
  rw [List.all_append, hp.one]
  rfl
theorem DriverIs.below {w w' : World} {cs : List Value} {d : DriverD} (h : DriverIs w cs d) (hb : Below w.heap.size w w') : DriverIs w' cs d := by
  obtain ⟨vp, IA, OA, ni, ci, no, co, rfl, hp, hi, ho⟩ := h
  exact ⟨vp, IA, OA, ni, ci, no, co, rfl, hp.below hb, hi.below hb, ho.below hb⟩
def DriverOwn (w : World) (base : Nat) (cs : List Value) (d : DriverD) : Prop := ∃ (vp : List Value) (IA OA : Option Addr) (ni ci no co : Nat),
  cs = vp ++ [.slice IA ni ci, .slice OA no co, .int .i64 d.wr, .int .i64 d.lo] ∧ PortOwn w base vp d.port ∧ w.ownsRow base 3 1 (.slice IA ni ci) ni (d.inn.map (Value.int .i64)) ∧ w.ownsRow base 3 1 (.slice OA no co) no (d.out.map (Value.int .i64))
section
variable {w w' : World} {base : Nat} {cs : List Value} {d : DriverD}
theorem DriverOwn.is (h : DriverOwn w base cs d) : DriverIs w cs d := by
  obtain ⟨vp, IA, OA, ni, ci, no, co, rfl, hp, hi, ho⟩ := h
  exact ⟨vp, IA, OA, ni, ci, no, co, rfl, hp.is, Ints.of_own hi, Ints.of_own ho⟩
theorem DriverOwn.lift_ {w0 : World} (_h0 : DriverOwn w0 base cs d) (h : DriverOwn w base cs d) : DriverOwn w base cs d := h
theorem DriverOwn.len (h : DriverOwn w base cs d) : cs.length = 22 := h.is.len
theorem DriverOwn.below (h : DriverOwn w base cs d) (hb : Below w.heap.size w w') : DriverOwn w' base cs d := by
  obtain ⟨vp, IA, OA, ni, ci, no, co, rfl, hp, hi, ho⟩ := h
  exact ⟨vp, IA, OA, ni, ci, no, co, rfl, hp.below hb, own_below_ hi hb, own_below_ ho hb⟩
theorem DriverOwn.only {g : Nat} (h : DriverOwn w base cs d) (hb : w.grownBy w' (some g)) (hg : g < base) : DriverOwn w' base cs d := by
  obtain ⟨vp, IA, OA, ni, ci, no, co, rfl, hp, hi, ho⟩ := h
  exact ⟨vp, IA, OA, ni, ci, no, co, rfl, hp.only hb hg, own_only hi hb hg, own_only ho hb hg⟩
theorem DriverOwn.set (h : DriverOwn w base cs d) {p : Addr} (hg : p.block < base) (u : Value) : DriverOwn (w.setCell p u) base cs d := by
  obtain ⟨vp, IA, OA, ni, ci, no, co, rfl, hp, hi, ho⟩ := h
  exact ⟨vp, IA, OA, ni, ci, no, co, rfl, hp.set hg u, own_set hi hg u, own_set ho hg u⟩
theorem DriverOwn.alloc (h : DriverOwn w base cs d) (o : Obj) : DriverOwn (w.alloc o) base cs d := h.below (b_alloc (b_refl _) _)
theorem DriverOwn.low {base' : Nat} (h : DriverOwn w base cs d) (hb : base' ≤ base) : DriverOwn w base' cs d := by
  obtain ⟨vp, IA, OA, ni, ci, no, co, rfl, hp, hi, ho⟩ := h
  exact ⟨vp, IA, OA, ni, ci, no, co, rfl, hp.low hb, own_mono_ hi hb, own_mono_ ho hb⟩
end
theorem ringValid_any (A : Option Addr) (n c : Nat) (xs : List Int) (w : World) (hx : Ints w A n xs) (hn : n ≤ 1099511627776) :
    Calls Try.prog 36 #[.slice A n c] w fun e w' => e = .returned (.bool (ringOk xs)) ∧ w = w' := by
  have HX := Lib.hid hx.len
  go_enter Try.func36, Try.ntmps36
  go_wp2_with (go_at_call 62; refine (allBytes_any _ _ _ _ _ hx hn).mono ?_; rintro e w' ⟨rfl, rfl⟩)
  all_goals
    go_ret
    refine ⟨ret_bool ?_, rfl⟩
    have := HX.out
    simp_all [ringOk]
    try omega
theorem countValid_any (x : Int) (w : World) : Calls Try.prog 37 #[.int .i64 x] w fun e w' => e = .returned (.bool (in_ x 0 999)) ∧ w = w' := by
  go_enter Try.func37, Try.ntmps37
  go_wp2
  all_goals
    go_ret
    exact ⟨ret_bool (by simp [in_]; omega), rfl⟩
set_option maxHeartbeats 4000000 in
theorem spec_DriverValidW (cs : List Value) (d : DriverD) (w : World) (h : DriverIs w cs d) (hs : d.small) (v : Bool) (hv : d.ok = v) :
    Calls Try.prog 24 #[.agg cs.toArray] w fun e w' => e = .returned (.bool v) ∧ Below w.heap.size w w' := by
  subst hv
  obtain ⟨vp, IA, OA, ni, ci, no, co, e, hp, hi, ho⟩ := h
  have E := Lib.hid e
  have lp := Lib.hid hp.len
  have HI := Lib.hid hi.len
  have HO := Lib.hid ho.len
  clear e
  obtain ⟨s1, s2, s3⟩ := hs
  have s2' : ni ≤ 1048576 := by have := HI.out; omega
  have s3' : no ≤ 1048576 := by have := HO.out; omega
  have S2 := Lib.hid s2
  have S3 := Lib.hid s3
  clear s2 s3
  obtain ⟨pd, inn, out, wr, lo⟩ := d
  simp only at *
  go_enter Try.func24, Try.ntmps24
  go_wp2_with (first | ((with_reducible refine at_load 47 (.tmp 3) rfl ?_); go_must (refine wpList_loadB (by repeat (first | (with_reducible exact (Blk.new w _ _)) | (with_reducible apply Blk.drew) | (with_reducible apply Blk.drewN) | (with_reducible apply Blk.alloc) | (with_reducible apply Blk.far) | omega | (focus (simp; done)) | (focus (simp; omega)))) 47 (.tmp 3) rfl (by rfl) 0 rfl (vp) (sub_l E.out) Try.underlying47 rfl (sz_impl_Port.trans (congrArg some (Eq.symm (lp.out)))) ?_)) | (go_at_call 38; go_must ((with_reducible refine (spec_PortValidV vp pd _ (hp.below (by repeat (first | (with_reducible exact b_refl _) | (with_reducible refine b_alloc ?_ _) | (with_reducible refine b_drew ?_) | (with_reducible refine b_drewN ?_ _) | (with_reducible refine b_set ?_ ?_ _) | (with_reducible refine b_trans ?_ (by assumption)) | (with_reducible refine b_only ?_ (by assumption) ?_) | omega | (focus (simp; done)) | (focus (simp; omega))))) s1).mono ?_); rintro e w1 ⟨rfl, hb1⟩; have hz1 := hb1.size; (try simp at hz1); have F1 := (Blk.new w _ _).below hb1 (by first | omega | (simp; done) | (simp; omega)); (try simp only [World.size_alloc, List.setIfInBounds_toArray, List.set_cons_zero, List.set_cons_succ] at F1); have F1l := F1.lt; (try simp only [World.size_alloc] at F1l); have c18 := F1.cellv 18 (tail_at E.out lp.out 0 rfl); have c19 := F1.cellv 19 (tail_at E.out lp.out 1 rfl); have c20 := F1.cellv 20 (tail_at E.out lp.out 2 rfl); have c21 := F1.cellv 21 (tail_at E.out lp.out 3 rfl))) | (go_at_call_of 39 IA; refine (l4Bytes_any _ _ _ inn _ (hi.below (by repeat (first | (with_reducible exact b_refl _) | (with_reducible refine b_alloc ?_ _) | (with_reducible refine b_drew ?_) | (with_reducible refine b_drewN ?_ _) | (with_reducible refine b_set ?_ ?_ _) | (with_reducible refine b_trans ?_ (by assumption)) | (with_reducible refine b_only ?_ (by assumption) ?_) | omega | (focus (simp; done)) | (focus (simp; omega))))) (by omega)).mono ?_; rintro e w2 ⟨rfl, rfl⟩) | (go_at_call_of 39 OA; refine (l4Bytes_any _ _ _ out _ (ho.below (by repeat (first | (with_reducible exact b_refl _) | (with_reducible refine b_alloc ?_ _) | (with_reducible refine b_drew ?_) | (with_reducible refine b_drewN ?_ _) | (with_reducible refine b_set ?_ ?_ _) | (with_reducible refine b_trans ?_ (by assumption)) | (with_reducible refine b_only ?_ (by assumption) ?_) | omega | (focus (simp; done)) | (focus (simp; omega))))) (by omega)).mono ?_; rintro e w3 ⟨rfl, rfl⟩) | (go_at_call 40; refine (l6In_any _ _ _ _).mono ?_; rintro e w4 ⟨rfl, rfl⟩))
  all_goals
    go_ret
    refine ⟨ret_bool ?_, (by repeat (first | (with_reducible exact b_refl _) | (with_reducible refine b_alloc ?_ _) | (with_reducible refine b_drew ?_) | (with_reducible refine b_drewN ?_ _) | (with_reducible refine b_set ?_ ?_ _) | (with_reducible refine b_trans ?_ (by assumption)) | (with_reducible refine b_only ?_ (by assumption) ?_) | omega | (focus (simp; done)) | (focus (simp; omega))))⟩
    have k1 := HI.out
    have k2 := HO.out
    clear c18 c19 c20 c21 F1 F1l hb1 hz1 hp hi ho E lp HI HO S2 S3 s1 s2' s3'
    simp_all [DriverD.ok, ringOk]
    try omega
set_option maxHeartbeats 4000000 in
theorem impl_DriverValidW (cs : List Value) (d : DriverD) (w : World) (h : DriverIs w cs d) (hs : d.small) (v : Bool) (hv : d.ok = v) :
    Calls Try.prog 23 #[.agg cs.toArray] w fun e w' => e = .returned (.bool v) ∧ Below w.heap.size w w' := by
  subst hv
  obtain ⟨vp, IA, OA, ni, ci, no, co, e, hp, hi, ho⟩ := h
  have E := Lib.hid e
  have lp := Lib.hid hp.len
  have HI := Lib.hid hi.len
  have HO := Lib.hid ho.len
  clear e
  obtain ⟨s1, s2, s3⟩ := hs
  have s2' : ni ≤ 1048576 := by have := HI.out; omega
  have s3' : no ≤ 1048576 := by have := HO.out; omega
  have S2 := Lib.hid s2
  have S3 := Lib.hid s3
  clear s2 s3
  obtain ⟨pd, inn, out, wr, lo⟩ := d
  simp only at *
  go_enter Try.func23, Try.ntmps23
  go_wp2_with (first | ((with_reducible refine at_load 47 (.tmp 3) rfl ?_); go_must (refine wpList_loadB (by repeat (first | (with_reducible exact (Blk.new w _ _)) | (with_reducible apply Blk.drew) | (with_reducible apply Blk.drewN) | (with_reducible apply Blk.alloc) | (with_reducible apply Blk.far) | omega | (focus (simp; done)) | (focus (simp; omega)))) 47 (.tmp 3) rfl (by rfl) 0 rfl (vp) (sub_l E.out) Try.underlying47 rfl (sz_impl_Port.trans (congrArg some (Eq.symm (lp.out)))) ?_)) | (go_at_call 35; go_must ((with_reducible refine (impl_PortValidV vp pd _ (hp.below (by repeat (first | (with_reducible exact b_refl _) | (with_reducible refine b_alloc ?_ _) | (with_reducible refine b_drew ?_) | (with_reducible refine b_drewN ?_ _) | (with_reducible refine b_set ?_ ?_ _) | (with_reducible refine b_trans ?_ (by assumption)) | (with_reducible refine b_only ?_ (by assumption) ?_) | omega | (focus (simp; done)) | (focus (simp; omega))))) s1).mono ?_); rintro e w1 ⟨rfl, hb1⟩; have hz1 := hb1.size; (try simp at hz1); have F1 := (Blk.new w _ _).below hb1 (by first | omega | (simp; done) | (simp; omega)); (try simp only [World.size_alloc, List.setIfInBounds_toArray, List.set_cons_zero, List.set_cons_succ] at F1); have F1l := F1.lt; (try simp only [World.size_alloc] at F1l); have c18 := F1.cellv 18 (tail_at E.out lp.out 0 rfl); have c19 := F1.cellv 19 (tail_at E.out lp.out 1 rfl); have c20 := F1.cellv 20 (tail_at E.out lp.out 2 rfl); have c21 := F1.cellv 21 (tail_at E.out lp.out 3 rfl))) | (go_at_call_of 36 IA; refine (ringValid_any _ _ _ inn _ (hi.below (by repeat (first | (with_reducible exact b_refl _) | (with_reducible refine b_alloc ?_ _) | (with_reducible refine b_drew ?_) | (with_reducible refine b_drewN ?_ _) | (with_reducible refine b_set ?_ ?_ _) | (with_reducible refine b_trans ?_ (by assumption)) | (with_reducible refine b_only ?_ (by assumption) ?_) | omega | (focus (simp; done)) | (focus (simp; omega))))) (by omega)).mono ?_; rintro e w2 ⟨rfl, rfl⟩) | (go_at_call_of 36 OA; refine (ringValid_any _ _ _ out _ (ho.below (by repeat (first | (with_reducible exact b_refl _) | (with_reducible refine b_alloc ?_ _) | (with_reducible refine b_drew ?_) | (with_reducible refine b_drewN ?_ _) | (with_reducible refine b_set ?_ ?_ _) | (with_reducible refine b_trans ?_ (by assumption)) | (with_reducible refine b_only ?_ (by assumption) ?_) | omega | (focus (simp; done)) | (focus (simp; omega))))) (by omega)).mono ?_; rintro e w3 ⟨rfl, rfl⟩) | (go_at_call 37; refine (countValid_any _ _).mono ?_; rintro e w4 ⟨rfl, rfl⟩))
  all_goals
    go_ret
    refine ⟨ret_bool ?_, (by repeat (first | (with_reducible exact b_refl _) | (with_reducible refine b_alloc ?_ _) | (with_reducible refine b_drew ?_) | (with_reducible refine b_drewN ?_ _) | (with_reducible refine b_set ?_ ?_ _) | (with_reducible refine b_trans ?_ (by assumption)) | (with_reducible refine b_only ?_ (by assumption) ?_) | omega | (focus (simp; done)) | (focus (simp; omega))))⟩
    clear c18 c19 c20 c21 F1 F1l hb1 hz1 hp hi ho E lp HI HO S2 S3 s1 s2' s3'
    simp_all [DriverD.ok]
set_option maxHeartbeats 2000000 in
theorem toDriverV (cs : List Value) (d : DriverD) (w : World) (h : DriverIs w cs d) (hs : d.small) :
    Calls Try.prog 18 #[.agg cs.toArray] w fun e w' => ∃ cs' : List Value, e = .returned (.agg cs'.toArray) ∧ DriverOwn w' w.heap.size cs' d ∧ Below w.heap.size w w' := by
  obtain ⟨vp, IA, OA, ni, ci, no, co, e, hp, hi, ho⟩ := h
  have E := Lib.hid e
  have lp := Lib.hid hp.len
  have HI := Lib.hid hi.len
  have HO := Lib.hid ho.len
  clear e
  obtain ⟨s1, s2, s3⟩ := hs
  have s2' : ni ≤ 1048576 := by have := HI.out; omega
  have s3' : no ≤ 1048576 := by have := HO.out; omega
  have S2 := Lib.hid s2
  have S3 := Lib.hid s3
  clear s2 s3
  obtain ⟨pd, inn, out, wr, lo⟩ := d
  simp only at *
  go_enter Try.func18, Try.ntmps18
  go_wp2_with (first | ((with_reducible refine at_load 33 (.tmp 4) rfl ?_); go_must (refine wpList_loadB (by repeat (first | (with_reducible exact (Blk.new w _ _)) | (with_reducible apply Blk.drew) | (with_reducible apply Blk.drewN) | (with_reducible apply Blk.alloc) | (with_reducible apply Blk.far) | omega | (focus (simp; done)) | (focus (simp; omega)))) 33 (.tmp 4) rfl (by rfl) 0 rfl (vp) (sub_l E.out) Try.underlying33 rfl (sz_laws_Port.trans (congrArg some (Eq.symm (lp.out)))) ?_)) | (go_at_call 27; go_must ((with_reducible refine (toPortV vp pd _ (hp.below (by repeat (first | (with_reducible exact b_refl _) | (with_reducible refine b_alloc ?_ _) | (with_reducible refine b_drew ?_) | (with_reducible refine b_drewN ?_ _) | (with_reducible refine b_set ?_ ?_ _) | (with_reducible refine b_trans ?_ (by assumption)) | (with_reducible refine b_only ?_ (by assumption) ?_) | omega | (focus (simp; done)) | (focus (simp; omega))))) s1).mono ?_); rintro e w1 ⟨vp', rfl, hw1, hb1⟩; have hz1 := hb1.size; (try simp at hz1); have F1 := (((Blk.new w _ _).alloc _).alloc _).below hb1 (by first | omega | (simp; done) | (simp; omega)); (try simp only [World.size_alloc, List.setIfInBounds_toArray, List.set_cons_zero, List.set_cons_succ] at F1); have F1l := F1.lt; (try simp only [World.size_alloc] at F1l); have R1 := ((Blk.new (w.alloc _) _ _).alloc _).below hb1 (by first | omega | (simp; done) | (simp; omega)); (try simp only [World.size_alloc, List.setIfInBounds_toArray, List.set_cons_zero, List.set_cons_succ] at R1); have R1l := R1.lt; (try simp only [World.size_alloc] at R1l); have O1 := (Blk.new ((w.alloc _).alloc _) _ _).below hb1 (by first | omega | (simp; done) | (simp; omega)); (try simp only [World.size_alloc, List.setIfInBounds_toArray, List.set_cons_zero, List.set_cons_succ] at O1); have O1l := O1.lt; (try simp only [World.size_alloc] at O1l); have lv := Lib.hid hw1.len; have ov := Lib.hid hw1.is.one)) | ((with_reducible refine at_store 47 (.tmp 7) (.tmp 6) rfl ?_); go_must (refine wpList_storeB (Blk.now O1 (by repeat (first | (with_reducible exact O1) | (with_reducible refine Blk.drew ?_) | (with_reducible refine Blk.drewN ?_ _) | (with_reducible refine Blk.alloc ?_ _) | (with_reducible refine Blk.far ?_ ?_ _) | omega | (focus (simp; done)) | (focus (simp; omega))))) 47 (.tmp 7) (.tmp 6) rfl (by rfl) 0 rfl (vp') rfl (sz_impl_Port.trans (congrArg some (Eq.symm (lv.out)))) (ov.out) ((by rw [lv.out]; simp)) (vp' ++ [.slice none 0 0, .slice none 0 0, .int .i64 0, .int .i64 0]) (st_l lv.out rfl) ?_; intro w2 N2 ho2; have hz2 := ho2.size; (try simp at hz2); have F2 := Blk.liftO F1 ho2 (by repeat (first | (with_reducible exact F1) | (with_reducible refine Blk.drew ?_) | (with_reducible refine Blk.drewN ?_ _) | (with_reducible refine Blk.alloc ?_ _) | (with_reducible refine Blk.far ?_ ?_ _) | omega | (focus (simp; done)) | (focus (simp; omega)))) (by first | omega | (simp; done) | (simp; omega)); (try simp only [World.size_alloc, List.setIfInBounds_toArray, List.set_cons_zero, List.set_cons_succ] at F2); have F2l := F2.lt; (try simp only [World.size_alloc] at F2l); have R2 := Blk.liftO R1 ho2 (by repeat (first | (with_reducible exact R1) | (with_reducible refine Blk.drew ?_) | (with_reducible refine Blk.drewN ?_ _) | (with_reducible refine Blk.alloc ?_ _) | (with_reducible refine Blk.far ?_ ?_ _) | omega | (focus (simp; done)) | (focus (simp; omega)))) (by first | omega | (simp; done) | (simp; omega)); (try simp only [World.size_alloc, List.setIfInBounds_toArray, List.set_cons_zero, List.set_cons_succ] at R2); have R2l := R2.lt; (try simp only [World.size_alloc] at R2l); have O2 := N2; (try simp only [World.size_alloc, List.setIfInBounds_toArray, List.set_cons_zero, List.set_cons_succ] at O2); have O2l := O2.lt; (try simp only [World.size_alloc] at O2l); have c18 := F2.cellv 18 (tail_at E.out lp.out 0 rfl))) | (go_at_call_of 28 IA; go_must ((with_reducible refine (toIntS_any IA ni ci inn _ (hi.below (by repeat (first | (with_reducible exact b_refl _) | (with_reducible refine b_alloc ?_ _) | (with_reducible refine b_drew ?_) | (with_reducible refine b_drewN ?_ _) | (with_reducible refine b_set ?_ ?_ _) | (with_reducible refine b_trans ?_ (by assumption)) | (with_reducible refine b_only ?_ (by assumption) ?_) | omega | (focus (simp; done)) | (focus (simp; omega))))) (by omega)).mono ?_); rintro e w3 ⟨IA', ci', rfl, hwi, hb3⟩; have hz3 := hb3.size; (try simp at hz3); have F3 := Blk.lift F2 hb3 (by repeat (first | (with_reducible exact F2) | (with_reducible refine Blk.drew ?_) | (with_reducible refine Blk.drewN ?_ _) | (with_reducible refine Blk.alloc ?_ _) | (with_reducible refine Blk.far ?_ ?_ _) | omega | (focus (simp; done)) | (focus (simp; omega)))); (try simp only [World.size_alloc, List.setIfInBounds_toArray, List.set_cons_zero, List.set_cons_succ] at F3); have F3l := F3.lt; (try simp only [World.size_alloc] at F3l); have R3 := Blk.lift R2 hb3 (by repeat (first | (with_reducible exact R2) | (with_reducible refine Blk.drew ?_) | (with_reducible refine Blk.drewN ?_ _) | (with_reducible refine Blk.alloc ?_ _) | (with_reducible refine Blk.far ?_ ?_ _) | omega | (focus (simp; done)) | (focus (simp; omega)))); (try simp only [World.size_alloc, List.setIfInBounds_toArray, List.set_cons_zero, List.set_cons_succ] at R3); have R3l := R3.lt; (try simp only [World.size_alloc] at R3l); have O3 := Blk.lift O2 hb3 (by repeat (first | (with_reducible exact O2) | (with_reducible refine Blk.drew ?_) | (with_reducible refine Blk.drewN ?_ _) | (with_reducible refine Blk.alloc ?_ _) | (with_reducible refine Blk.far ?_ ?_ _) | omega | (focus (simp; done)) | (focus (simp; omega)))); (try simp only [World.size_alloc, List.setIfInBounds_toArray, List.set_cons_zero, List.set_cons_succ] at O3); have O3l := O3.lt; (try simp only [World.size_alloc] at O3l); have d18 := O3.cellv 18 (tail_at rfl lv.out 0 rfl); have f18 := O3.frozen 18; have c19 := F3.cellv 19 (tail_at E.out lp.out 1 rfl))) | (go_at_call_of 28 OA; go_must ((with_reducible refine (toIntS_any OA no co out _ (ho.below (by repeat (first | (with_reducible exact b_refl _) | (with_reducible refine b_alloc ?_ _) | (with_reducible refine b_drew ?_) | (with_reducible refine b_drewN ?_ _) | (with_reducible refine b_set ?_ ?_ _) | (with_reducible refine b_trans ?_ (by assumption)) | (with_reducible refine b_only ?_ (by assumption) ?_) | omega | (focus (simp; done)) | (focus (simp; omega))))) (by omega)).mono ?_); rintro e w4 ⟨OA', co', rfl, hwo, hb4⟩; have hz4 := hb4.size; (try simp at hz4); have F4 := Blk.lift F3 hb4 (by repeat (first | (with_reducible exact F3) | (with_reducible refine Blk.drew ?_) | (with_reducible refine Blk.drewN ?_ _) | (with_reducible refine Blk.alloc ?_ _) | (with_reducible refine Blk.far ?_ ?_ _) | omega | (focus (simp; done)) | (focus (simp; omega)))); (try simp only [World.size_alloc, List.setIfInBounds_toArray, List.set_cons_zero, List.set_cons_succ] at F4); have F4l := F4.lt; (try simp only [World.size_alloc] at F4l); have R4 := Blk.lift R3 hb4 (by repeat (first | (with_reducible exact R3) | (with_reducible refine Blk.drew ?_) | (with_reducible refine Blk.drewN ?_ _) | (with_reducible refine Blk.alloc ?_ _) | (with_reducible refine Blk.far ?_ ?_ _) | omega | (focus (simp; done)) | (focus (simp; omega)))); (try simp only [World.size_alloc, List.setIfInBounds_toArray, List.set_cons_zero, List.set_cons_succ] at R4); have R4l := R4.lt; (try simp only [World.size_alloc] at R4l); have O4 := (O3.setr lv.out 0 _).below hb4 (by first | omega | (simp; done) | (simp; omega)); (try simp only [World.size_alloc, List.setIfInBounds_toArray, List.set_cons_zero, List.set_cons_succ] at O4); have O4l := O4.lt; (try simp only [World.size_alloc] at O4l); have d19 := O4.cellv 19 (tail_at rfl lv.out 1 rfl); have d20 := O4.cellv 20 (tail_at rfl lv.out 2 rfl); have d21 := O4.cellv 21 (tail_at rfl lv.out 3 rfl); have f19 := O4.frozen 19; have f20 := O4.frozen 20; have f21 := O4.frozen 21; have c20 := F4.cellv 20 (tail_at E.out lp.out 2 rfl); have c21 := F4.cellv 21 (tail_at E.out lp.out 3 rfl))) | ((with_reducible refine at_load 49 (.tmp 3) rfl ?_); go_must (refine wpList_loadB (by repeat (first | (with_reducible exact (Blk.to2 (((O4.setr lv.out 1 _).setr lv.out 2 _).setr lv.out 3 _) (by simp))) | (with_reducible apply Blk.drew) | (with_reducible apply Blk.drewN) | (with_reducible apply Blk.alloc) | (with_reducible apply Blk.far) | omega | (focus (simp; done)) | (focus (simp; omega)))) 49 (.tmp 3) rfl (by rfl) 0 rfl (vp' ++ [.slice IA' ni ci', .slice OA' no co', .int .i64 wr, .int .i64 lo]) (sub_all _) Try.underlying49 rfl (sz_impl_Driver.trans (congrArg some (Eq.symm ((by rw [List.length_append, lv.out]; rfl))))) ?_)) | ((with_reducible refine at_store 49 (.tmp 2) (.tmp 22) rfl ?_); go_must (refine wpList_storeB (Blk.now R4 (by repeat (first | (with_reducible exact R4) | (with_reducible refine Blk.drew ?_) | (with_reducible refine Blk.drewN ?_ _) | (with_reducible refine Blk.alloc ?_ _) | (with_reducible refine Blk.far ?_ ?_ _) | omega | (focus (simp; done)) | (focus (simp; omega))))) 49 (.tmp 2) (.tmp 22) rfl (by rfl) 0 rfl (vp' ++ [.slice IA' ni ci', .slice OA' no co', .int .i64 wr, .int .i64 lo]) rfl (sz_impl_Driver.trans (congrArg some (Eq.symm ((by rw [List.length_append, lv.out]; rfl))))) ((by rw [List.all_append, ov.out]; rfl)) ((by rw [List.length_append, lv.out]; simp)) (vp' ++ [.slice IA' ni ci', .slice OA' no co', .int .i64 wr, .int .i64 lo]) (st_all (by rw [List.length_append, lv.out]; rfl)) ?_; intro w5 N5 ho5; have hz5 := ho5.size; (try simp at hz5))))
  have hN : (vp' ++ ([.slice IA' ni ci', .slice OA' no co', .int .i64 wr, .int .i64 lo] : List Value)).length = 22 := by rw [List.length_append, lv.out]; rfl
  exact bodyPost_ret (results_blk rfl N5 _ rfl Try.underlying49 rfl (by rw [List.size_toArray, hN]; exact sz_impl_Driver)) rfl ⟨_, rfl, ⟨vp', IA', OA', ni, ci', no, co', rfl, (PortOwn.low (PortOwn.lift_ hw1 (by repeat (first | (with_reducible exact hw1) | (with_reducible refine PortOwn.set ?_ ?_ _) | (with_reducible refine PortOwn.alloc ?_ _) | (with_reducible refine PortOwn.below ?_ (by assumption)) | (with_reducible refine PortOwn.only ?_ (by assumption) ?_) | omega | (focus (simp; done)) | (focus (simp; omega))))) (by first | omega | (simp; done) | (simp; omega))), (own_mono_ (own_lift_ hwi (by repeat (first | (with_reducible exact hwi) | (with_reducible refine own_set ?_ ?_ _) | (with_reducible refine World.ownsRow.alloc ?_ _) | (with_reducible refine own_below_ ?_ (by assumption)) | (with_reducible refine own_only ?_ (by assumption) ?_) | omega | (focus (simp; done)) | (focus (simp; omega))))) (by first | omega | (simp; done) | (simp; omega))), (own_mono_ (own_lift_ hwo (by repeat (first | (with_reducible exact hwo) | (with_reducible refine own_set ?_ ?_ _) | (with_reducible refine World.ownsRow.alloc ?_ _) | (with_reducible refine own_below_ ?_ (by assumption)) | (with_reducible refine own_only ?_ (by assumption) ?_) | omega | (focus (simp; done)) | (focus (simp; omega))))) (by first | omega | (simp; done) | (simp; omega)))⟩, (by repeat (first | (with_reducible exact b_refl _) | (with_reducible refine b_alloc ?_ _) | (with_reducible refine b_drew ?_) | (with_reducible refine b_drewN ?_ _) | (with_reducible refine b_set ?_ ?_ _) | (with_reducible refine b_trans ?_ (by assumption)) | (with_reducible refine b_only ?_ (by assumption) ?_) | omega | (focus (simp; done)) | (focus (simp; omega))))⟩
theorem eqIntS_same (A B : Option Addr) (n c d : Nat) (xs : List Int) (w : World) (hx : Ints w A n xs) (hy : Ints w B n xs) (hn : n ≤ 1099511627776) :
    Calls Try.prog 9 #[.slice A n c, .slice B n d] w fun e w' => e = .returned (.bool true) ∧ Below w.heap.size w w' := by
  refine (eqIntS_any A B n n c d xs xs w hx hy hn hn).mono ?_
  rintro e w' ⟨rfl, hb⟩
  exact ⟨by simp, hb⟩
theorem szInt_any (A : Option Addr) (n c : Nat) (xs : List Int) (l : Int) (w : World) (hx : Ints w A n xs) (hn : xs.length ≤ maxLen) (h0 : 0 ≤ l) (h1 : l ≤ 1048576) (r : Int) (hr : listLeft xs l = r) : Calls Try.prog 26 #[.slice A n c, .int .i64 l] w fun e w' => e = .returned (.int .i64 r) ∧ w = w' := by
  subst hr
  have := hx.len
  unfold maxLen at hn
  refine (szIntS_any A n c l w (by omega) h0 h1).mono ?_
  rintro e w' ⟨rfl, rfl⟩
  exact ⟨by rw [listLeft, hx.len], rfl⟩
set_option maxHeartbeats 1000000 in
theorem eqDriverV (cs cs' : List Value) (d : DriverD) (w : World) (h : DriverIs w cs d) (h' : DriverIs w cs' d) (hs : d.small) :
    Calls Try.prog 19 #[.agg cs.toArray, .agg cs'.toArray] w fun e w' => e = .returned (.bool true) ∧ Below w.heap.size w w' := by
  obtain ⟨vp, IA, OA, ni, ci, no, co, e, hp, hi, ho⟩ := h
  obtain ⟨up, JA, QA, mi, di, mo, dO, e', gp, gi, go⟩ := h'
  have E := Lib.hid e
  have E' := Lib.hid e'
  have lp := Lib.hid hp.len
  have kp := Lib.hid gp.len
  have e1 : mi = ni := gi.len.symm.trans hi.len
  have e2 : mo = no := go.len.symm.trans ho.len
  subst e1; subst e2
  have HI := Lib.hid hi.len
  have HO := Lib.hid ho.len
  clear e e'
  obtain ⟨s1, s2, s3⟩ := hs
  have s2' : mi ≤ 1048576 := by have := HI.out; omega
  have s3' : mo ≤ 1048576 := by have := HO.out; omega
  have S2 := Lib.hid s2
  have S3 := Lib.hid s3
  clear s2 s3
  obtain ⟨pd, inn, out, wr, lo⟩ := d
  simp only at *
  go_enter Try.func19, Try.ntmps19
  go_wp2_with (first | ((with_reducible refine at_load 47 (.tmp 5) rfl ?_); go_must (refine wpList_loadB (by repeat (first | (with_reducible exact (Blk.new w _ _)) | (with_reducible apply Blk.drew) | (with_reducible apply Blk.drewN) | (with_reducible apply Blk.alloc) | (with_reducible apply Blk.far) | omega | (focus (simp; done)) | (focus (simp; omega)))) 47 (.tmp 5) rfl (by rfl) 0 rfl (vp) (sub_l E.out) Try.underlying47 rfl (sz_impl_Port.trans (congrArg some (Eq.symm (lp.out)))) ?_)) | ((with_reducible refine at_load 47 (.tmp 7) rfl ?_); go_must (refine wpList_loadB (by repeat (first | (with_reducible exact (Blk.new1 w _ _ _)) | (with_reducible apply Blk.drew) | (with_reducible apply Blk.drewN) | (with_reducible apply Blk.alloc) | (with_reducible apply Blk.far) | omega | (focus (simp; done)) | (focus (simp; omega)))) 47 (.tmp 7) rfl (by rfl) 0 rfl (up) (sub_l E'.out) Try.underlying47 rfl (sz_impl_Port.trans (congrArg some (Eq.symm (kp.out)))) ?_)) | (go_at_call 29; go_must ((with_reducible refine (eqPortV vp up pd _ (hp.below (by repeat (first | (with_reducible exact b_refl _) | (with_reducible refine b_alloc ?_ _) | (with_reducible refine b_drew ?_) | (with_reducible refine b_drewN ?_ _) | (with_reducible refine b_set ?_ ?_ _) | (with_reducible refine b_trans ?_ (by assumption)) | (with_reducible refine b_only ?_ (by assumption) ?_) | omega | (focus (simp; done)) | (focus (simp; omega))))) (gp.below (by repeat (first | (with_reducible exact b_refl _) | (with_reducible refine b_alloc ?_ _) | (with_reducible refine b_drew ?_) | (with_reducible refine b_drewN ?_ _) | (with_reducible refine b_set ?_ ?_ _) | (with_reducible refine b_trans ?_ (by assumption)) | (with_reducible refine b_only ?_ (by assumption) ?_) | omega | (focus (simp; done)) | (focus (simp; omega))))) s1).mono ?_); rintro e w1 ⟨rfl, hb1⟩; have hz1 := hb1.size; (try simp at hz1); have F1 := ((Blk.new w _ _).alloc _).below hb1 (by first | omega | (simp; done) | (simp; omega)); (try simp only [World.size_alloc, List.setIfInBounds_toArray, List.set_cons_zero, List.set_cons_succ] at F1); have F1l := F1.lt; (try simp only [World.size_alloc] at F1l); have G1 := (Blk.new (w.alloc _) _ _).below hb1 (by first | omega | (simp; done) | (simp; omega)); (try simp only [World.size_alloc, List.setIfInBounds_toArray, List.set_cons_zero, List.set_cons_succ] at G1); have G1l := G1.lt; (try simp only [World.size_alloc] at G1l); have c18 := F1.cellv 18 (tail_at E.out lp.out 0 rfl); have d18 := G1.cellv 18 (tail_at E'.out kp.out 0 rfl))) | (go_at_call_of 9 IA; go_must ((with_reducible refine (eqIntS_same IA JA mi ci di inn _ (hi.below (by repeat (first | (with_reducible exact b_refl _) | (with_reducible refine b_alloc ?_ _) | (with_reducible refine b_drew ?_) | (with_reducible refine b_drewN ?_ _) | (with_reducible refine b_set ?_ ?_ _) | (with_reducible refine b_trans ?_ (by assumption)) | (with_reducible refine b_only ?_ (by assumption) ?_) | omega | (focus (simp; done)) | (focus (simp; omega))))) (gi.below (by repeat (first | (with_reducible exact b_refl _) | (with_reducible refine b_alloc ?_ _) | (with_reducible refine b_drew ?_) | (with_reducible refine b_drewN ?_ _) | (with_reducible refine b_set ?_ ?_ _) | (with_reducible refine b_trans ?_ (by assumption)) | (with_reducible refine b_only ?_ (by assumption) ?_) | omega | (focus (simp; done)) | (focus (simp; omega))))) (by omega)).mono ?_); rintro e w2 ⟨rfl, hb2⟩; have hz2 := hb2.size; (try simp at hz2); have F2 := Blk.lift F1 hb2 (by repeat (first | (with_reducible exact F1) | (with_reducible refine Blk.drew ?_) | (with_reducible refine Blk.drewN ?_ _) | (with_reducible refine Blk.alloc ?_ _) | (with_reducible refine Blk.far ?_ ?_ _) | omega | (focus (simp; done)) | (focus (simp; omega)))); (try simp only [World.size_alloc, List.setIfInBounds_toArray, List.set_cons_zero, List.set_cons_succ] at F2); have F2l := F2.lt; (try simp only [World.size_alloc] at F2l); have G2 := Blk.lift G1 hb2 (by repeat (first | (with_reducible exact G1) | (with_reducible refine Blk.drew ?_) | (with_reducible refine Blk.drewN ?_ _) | (with_reducible refine Blk.alloc ?_ _) | (with_reducible refine Blk.far ?_ ?_ _) | omega | (focus (simp; done)) | (focus (simp; omega)))); (try simp only [World.size_alloc, List.setIfInBounds_toArray, List.set_cons_zero, List.set_cons_succ] at G2); have G2l := G2.lt; (try simp only [World.size_alloc] at G2l); have e19 := F2.cellv 19 (tail_at E.out lp.out 1 rfl); have g19 := G2.cellv 19 (tail_at E'.out kp.out 1 rfl))) | (go_at_call_of 9 OA; go_must ((with_reducible refine (eqIntS_same OA QA mo co dO out _ (ho.below (by repeat (first | (with_reducible exact b_refl _) | (with_reducible refine b_alloc ?_ _) | (with_reducible refine b_drew ?_) | (with_reducible refine b_drewN ?_ _) | (with_reducible refine b_set ?_ ?_ _) | (with_reducible refine b_trans ?_ (by assumption)) | (with_reducible refine b_only ?_ (by assumption) ?_) | omega | (focus (simp; done)) | (focus (simp; omega))))) (go.below (by repeat (first | (with_reducible exact b_refl _) | (with_reducible refine b_alloc ?_ _) | (with_reducible refine b_drew ?_) | (with_reducible refine b_drewN ?_ _) | (with_reducible refine b_set ?_ ?_ _) | (with_reducible refine b_trans ?_ (by assumption)) | (with_reducible refine b_only ?_ (by assumption) ?_) | omega | (focus (simp; done)) | (focus (simp; omega))))) (by omega)).mono ?_); rintro e w3 ⟨rfl, hb3⟩; have hz3 := hb3.size; (try simp at hz3); have F3 := Blk.lift F2 hb3 (by repeat (first | (with_reducible exact F2) | (with_reducible refine Blk.drew ?_) | (with_reducible refine Blk.drewN ?_ _) | (with_reducible refine Blk.alloc ?_ _) | (with_reducible refine Blk.far ?_ ?_ _) | omega | (focus (simp; done)) | (focus (simp; omega)))); (try simp only [World.size_alloc, List.setIfInBounds_toArray, List.set_cons_zero, List.set_cons_succ] at F3); have F3l := F3.lt; (try simp only [World.size_alloc] at F3l); have G3 := Blk.lift G2 hb3 (by repeat (first | (with_reducible exact G2) | (with_reducible refine Blk.drew ?_) | (with_reducible refine Blk.drewN ?_ _) | (with_reducible refine Blk.alloc ?_ _) | (with_reducible refine Blk.far ?_ ?_ _) | omega | (focus (simp; done)) | (focus (simp; omega)))); (try simp only [World.size_alloc, List.setIfInBounds_toArray, List.set_cons_zero, List.set_cons_succ] at G3); have G3l := G3.lt; (try simp only [World.size_alloc] at G3l); have e20 := F3.cellv 20 (tail_at E.out lp.out 2 rfl); have g20 := G3.cellv 20 (tail_at E'.out kp.out 2 rfl); have e21 := F3.cellv 21 (tail_at E.out lp.out 3 rfl); have g21 := G3.cellv 21 (tail_at E'.out kp.out 3 rfl))))
  go_ret
  exact ⟨rfl, (by repeat (first | (with_reducible exact b_refl _) | (with_reducible refine b_alloc ?_ _) | (with_reducible refine b_drew ?_) | (with_reducible refine b_drewN ?_ _) | (with_reducible refine b_set ?_ ?_ _) | (with_reducible refine b_trans ?_ (by assumption)) | (with_reducible refine b_only ?_ (by assumption) ?_) | omega | (focus (simp; done)) | (focus (simp; omega))))⟩
set_option maxHeartbeats 1000000 in
theorem szDriverV (cs : List Value) (d : DriverD) (l : Int) (w : World) (h : DriverIs w cs d) (hf : d.fits) (h0 : 0 ≤ l) (hl : l ≤ 1048576) :
    Calls Try.prog 17 #[.agg cs.toArray, .int .i64 l] w fun e w' => e = .returned (.int .i64 (d.left l)) ∧ Below w.heap.size w w' := by
  obtain ⟨vp, IA, OA, ni, ci, no, co, e, hp, hi, ho⟩ := h
  have E := Lib.hid e
  have lp := Lib.hid hp.len
  clear e
  obtain ⟨f1, f2, f3⟩ := hf
  have c1 := szPortV vp d.port l
  have k1 := @PortD.left_ok d.port l hl
  have c2 := fun w h => szInt_any IA ni ci d.inn (d.port.left l) w h f2
  have k2 := @listLeft_ok d.inn (d.port.left l)
  have c3 := fun w h => szInt_any OA no co d.out (listLeft d.inn (d.port.left l)) w h f3
  rw [DriverD.left]
  generalize listLeft d.out (listLeft d.inn (d.port.left l)) = r3 at *
  generalize listLeft d.inn (d.port.left l) = r2 at *
  generalize d.port.left l = r1 at *
  have F2 := Lib.hid f2
  have F3 := Lib.hid f3
  clear f2 f3
  by_cases n1 : r1 < 0
  · rw [if_pos n1]
    have C1 := Lib.hid c1
    clear c1 c2 k1 k2 c3
    go_enter Try.func17, Try.ntmps17
    go_wp2_with (first | ((with_reducible refine at_load 33 (.tmp 5) rfl ?_); go_must (refine wpList_loadB (by repeat (first | (with_reducible exact (Blk.new w _ _)) | (with_reducible apply Blk.drew) | (with_reducible apply Blk.drewN) | (with_reducible apply Blk.alloc) | (with_reducible apply Blk.far) | omega | (focus (simp; done)) | (focus (simp; omega)))) 33 (.tmp 5) rfl (by rfl) 0 rfl (vp) (sub_l E.out) Try.underlying33 rfl (sz_laws_Port.trans (congrArg some (Eq.symm (lp.out)))) ?_)) | (go_at_call 25; go_must ((with_reducible refine (C1.out _ (hp.below (by repeat (first | (with_reducible exact b_refl _) | (with_reducible refine b_alloc ?_ _) | (with_reducible refine b_drew ?_) | (with_reducible refine b_drewN ?_ _) | (with_reducible refine b_set ?_ ?_ _) | (with_reducible refine b_trans ?_ (by assumption)) | (with_reducible refine b_only ?_ (by assumption) ?_) | omega | (focus (simp; done)) | (focus (simp; omega))))) f1 h0 hl).mono ?_); rintro e w1 ⟨rfl, hb1⟩; have hz1 := hb1.size; (try simp at hz1); have F1 := (Blk.new w _ _).below hb1 (by first | omega | (simp; done) | (simp; omega)); (try simp only [World.size_alloc, List.setIfInBounds_toArray, List.set_cons_zero, List.set_cons_succ] at F1); have F1l := F1.lt; (try simp only [World.size_alloc] at F1l))))
    go_ret
    exact ⟨rfl, (by repeat (first | (with_reducible exact b_refl _) | (with_reducible refine b_alloc ?_ _) | (with_reducible refine b_drew ?_) | (with_reducible refine b_drewN ?_ _) | (with_reducible refine b_set ?_ ?_ _) | (with_reducible refine b_trans ?_ (by assumption)) | (with_reducible refine b_only ?_ (by assumption) ?_) | omega | (focus (simp; done)) | (focus (simp; omega))))⟩
  rw [if_neg n1]
  have m1 := (k1 (by omega)).2
  have C1 := Lib.hid c1
  have C2 := Lib.hid (fun w h => c2 w h (by omega) (by omega) r2 rfl)
  clear c1 c2 k1
  by_cases n2 : r2 < 0
  · rw [if_pos n2]
    clear k2 c3
    go_enter Try.func17, Try.ntmps17
    go_wp2_with (first | ((with_reducible refine at_load 33 (.tmp 5) rfl ?_); go_must (refine wpList_loadB (by repeat (first | (with_reducible exact (Blk.new w _ _)) | (with_reducible apply Blk.drew) | (with_reducible apply Blk.drewN) | (with_reducible apply Blk.alloc) | (with_reducible apply Blk.far) | omega | (focus (simp; done)) | (focus (simp; omega)))) 33 (.tmp 5) rfl (by rfl) 0 rfl (vp) (sub_l E.out) Try.underlying33 rfl (sz_laws_Port.trans (congrArg some (Eq.symm (lp.out)))) ?_)) | (go_at_call 25; go_must ((with_reducible refine (C1.out _ (hp.below (by repeat (first | (with_reducible exact b_refl _) | (with_reducible refine b_alloc ?_ _) | (with_reducible refine b_drew ?_) | (with_reducible refine b_drewN ?_ _) | (with_reducible refine b_set ?_ ?_ _) | (with_reducible refine b_trans ?_ (by assumption)) | (with_reducible refine b_only ?_ (by assumption) ?_) | omega | (focus (simp; done)) | (focus (simp; omega))))) f1 h0 hl).mono ?_); rintro e w1 ⟨rfl, hb1⟩; have hz1 := hb1.size; (try simp at hz1); have F1 := (Blk.new w _ _).below hb1 (by first | omega | (simp; done) | (simp; omega)); (try simp only [World.size_alloc, List.setIfInBounds_toArray, List.set_cons_zero, List.set_cons_succ] at F1); have F1l := F1.lt; (try simp only [World.size_alloc] at F1l); have c18 := F1.cellv 18 (tail_at E.out lp.out 0 rfl))) | (go_at_call_of 26 IA; go_must ((with_reducible refine (C2.out _ (hi.below (by repeat (first | (with_reducible exact b_refl _) | (with_reducible refine b_alloc ?_ _) | (with_reducible refine b_drew ?_) | (with_reducible refine b_drewN ?_ _) | (with_reducible refine b_set ?_ ?_ _) | (with_reducible refine b_trans ?_ (by assumption)) | (with_reducible refine b_only ?_ (by assumption) ?_) | omega | (focus (simp; done)) | (focus (simp; omega)))))).mono ?_); rintro e w2 ⟨rfl, rfl⟩)))
    go_ret
    exact ⟨rfl, (by repeat (first | (with_reducible exact b_refl _) | (with_reducible refine b_alloc ?_ _) | (with_reducible refine b_drew ?_) | (with_reducible refine b_drewN ?_ _) | (with_reducible refine b_set ?_ ?_ _) | (with_reducible refine b_trans ?_ (by assumption)) | (with_reducible refine b_only ?_ (by assumption) ?_) | omega | (focus (simp; done)) | (focus (simp; omega))))⟩
  rw [if_neg n2]
  have m2 := (k2 (by omega) (by omega)).2
  have C3 := Lib.hid (fun w h => c3 w h (by omega) (by omega) r3 rfl)
  clear c3 k2
  by_cases n3 : r3 < 0
  · rw [if_pos n3]
    go_enter Try.func17, Try.ntmps17
    go_wp2_with (first | ((with_reducible refine at_load 33 (.tmp 5) rfl ?_); go_must (refine wpList_loadB (by repeat (first | (with_reducible exact (Blk.new w _ _)) | (with_reducible apply Blk.drew) | (with_reducible apply Blk.drewN) | (with_reducible apply Blk.alloc) | (with_reducible apply Blk.far) | omega | (focus (simp; done)) | (focus (simp; omega)))) 33 (.tmp 5) rfl (by rfl) 0 rfl (vp) (sub_l E.out) Try.underlying33 rfl (sz_laws_Port.trans (congrArg some (Eq.symm (lp.out)))) ?_)) | (go_at_call 25; go_must ((with_reducible refine (C1.out _ (hp.below (by repeat (first | (with_reducible exact b_refl _) | (with_reducible refine b_alloc ?_ _) | (with_reducible refine b_drew ?_) | (with_reducible refine b_drewN ?_ _) | (with_reducible refine b_set ?_ ?_ _) | (with_reducible refine b_trans ?_ (by assumption)) | (with_reducible refine b_only ?_ (by assumption) ?_) | omega | (focus (simp; done)) | (focus (simp; omega))))) f1 h0 hl).mono ?_); rintro e w1 ⟨rfl, hb1⟩; have hz1 := hb1.size; (try simp at hz1); have F1 := (Blk.new w _ _).below hb1 (by first | omega | (simp; done) | (simp; omega)); (try simp only [World.size_alloc, List.setIfInBounds_toArray, List.set_cons_zero, List.set_cons_succ] at F1); have F1l := F1.lt; (try simp only [World.size_alloc] at F1l); have c18 := F1.cellv 18 (tail_at E.out lp.out 0 rfl); have c19 := F1.cellv 19 (tail_at E.out lp.out 1 rfl))) | (go_at_call_of 26 IA; go_must ((with_reducible refine (C2.out _ (hi.below (by repeat (first | (with_reducible exact b_refl _) | (with_reducible refine b_alloc ?_ _) | (with_reducible refine b_drew ?_) | (with_reducible refine b_drewN ?_ _) | (with_reducible refine b_set ?_ ?_ _) | (with_reducible refine b_trans ?_ (by assumption)) | (with_reducible refine b_only ?_ (by assumption) ?_) | omega | (focus (simp; done)) | (focus (simp; omega)))))).mono ?_); rintro e w2 ⟨rfl, rfl⟩)) | (go_at_call_of 26 OA; go_must ((with_reducible refine (C3.out _ (ho.below (by repeat (first | (with_reducible exact b_refl _) | (with_reducible refine b_alloc ?_ _) | (with_reducible refine b_drew ?_) | (with_reducible refine b_drewN ?_ _) | (with_reducible refine b_set ?_ ?_ _) | (with_reducible refine b_trans ?_ (by assumption)) | (with_reducible refine b_only ?_ (by assumption) ?_) | omega | (focus (simp; done)) | (focus (simp; omega)))))).mono ?_); rintro e w3 ⟨rfl, rfl⟩)))
    go_ret
    exact ⟨rfl, (by repeat (first | (with_reducible exact b_refl _) | (with_reducible refine b_alloc ?_ _) | (with_reducible refine b_drew ?_) | (with_reducible refine b_drewN ?_ _) | (with_reducible refine b_set ?_ ?_ _) | (with_reducible refine b_trans ?_ (by assumption)) | (with_reducible refine b_only ?_ (by assumption) ?_) | omega | (focus (simp; done)) | (focus (simp; omega))))⟩
  · rw [if_neg n3]
    go_enter Try.func17, Try.ntmps17
    go_wp2_with (first | ((with_reducible refine at_load 33 (.tmp 5) rfl ?_); go_must (refine wpList_loadB (by repeat (first | (with_reducible exact (Blk.new w _ _)) | (with_reducible apply Blk.drew) | (with_reducible apply Blk.drewN) | (with_reducible apply Blk.alloc) | (with_reducible apply Blk.far) | omega | (focus (simp; done)) | (focus (simp; omega)))) 33 (.tmp 5) rfl (by rfl) 0 rfl (vp) (sub_l E.out) Try.underlying33 rfl (sz_laws_Port.trans (congrArg some (Eq.symm (lp.out)))) ?_)) | (go_at_call 25; go_must ((with_reducible refine (C1.out _ (hp.below (by repeat (first | (with_reducible exact b_refl _) | (with_reducible refine b_alloc ?_ _) | (with_reducible refine b_drew ?_) | (with_reducible refine b_drewN ?_ _) | (with_reducible refine b_set ?_ ?_ _) | (with_reducible refine b_trans ?_ (by assumption)) | (with_reducible refine b_only ?_ (by assumption) ?_) | omega | (focus (simp; done)) | (focus (simp; omega))))) f1 h0 hl).mono ?_); rintro e w1 ⟨rfl, hb1⟩; have hz1 := hb1.size; (try simp at hz1); have F1 := (Blk.new w _ _).below hb1 (by first | omega | (simp; done) | (simp; omega)); (try simp only [World.size_alloc, List.setIfInBounds_toArray, List.set_cons_zero, List.set_cons_succ] at F1); have F1l := F1.lt; (try simp only [World.size_alloc] at F1l); have c18 := F1.cellv 18 (tail_at E.out lp.out 0 rfl); have c19 := F1.cellv 19 (tail_at E.out lp.out 1 rfl))) | (go_at_call_of 26 IA; go_must ((with_reducible refine (C2.out _ (hi.below (by repeat (first | (with_reducible exact b_refl _) | (with_reducible refine b_alloc ?_ _) | (with_reducible refine b_drew ?_) | (with_reducible refine b_drewN ?_ _) | (with_reducible refine b_set ?_ ?_ _) | (with_reducible refine b_trans ?_ (by assumption)) | (with_reducible refine b_only ?_ (by assumption) ?_) | omega | (focus (simp; done)) | (focus (simp; omega)))))).mono ?_); rintro e w2 ⟨rfl, rfl⟩)) | (go_at_call_of 26 OA; go_must ((with_reducible refine (C3.out _ (ho.below (by repeat (first | (with_reducible exact b_refl _) | (with_reducible refine b_alloc ?_ _) | (with_reducible refine b_drew ?_) | (with_reducible refine b_drewN ?_ _) | (with_reducible refine b_set ?_ ?_ _) | (with_reducible refine b_trans ?_ (by assumption)) | (with_reducible refine b_only ?_ (by assumption) ?_) | omega | (focus (simp; done)) | (focus (simp; omega)))))).mono ?_); rintro e w3 ⟨rfl, rfl⟩)))
    go_ret
    exact ⟨rfl, (by repeat (first | (with_reducible exact b_refl _) | (with_reducible refine b_alloc ?_ _) | (with_reducible refine b_drew ?_) | (with_reducible refine b_drewN ?_ _) | (with_reducible refine b_set ?_ ?_ _) | (with_reducible refine b_trans ?_ (by assumption)) | (with_reducible refine b_only ?_ (by assumption) ?_) | omega | (focus (simp; done)) | (focus (simp; omega))))⟩
end Go.Proofs.Ytdnjdbafffifeaa

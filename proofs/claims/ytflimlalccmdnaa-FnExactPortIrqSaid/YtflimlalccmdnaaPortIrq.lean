/-
  PortIrq (the program's and the reference's). Condition: at most 2^20 elements.
-/
import Derived.Test.YtflimlalccmdnaaRecvStat
import Derived.Test.YtflimlalccmdnaaIrq2
import Derived.Test.YtflimlalccmdnaaPortV
import Derived.Test.YtflimlalccmdnaaModem
set_option linter.unusedVariables false
set_option linter.unusedSimpArgs false
namespace Go.Proofs.Ytflimlalccmdnaa
open Go.ChangeShapes Go.WideShapes Go.ChangeAt Go.RowKit

theorem wpAnyH_takeD {P : Program} {md : Region.Mode} {ops : Array Oper} {Q : Exit → Act → World → Prop} {S : World → Prop} {i : Nat} {oi : Oper} {v : Value} {d : Option Tmp} {fuel : Nat} {listed : Array Bool} {a : Act} {w : World} (hi : ops[i]? = some oi) (hd : oi.dst = d)
    (hs : Region.noSelect ops = true) (hf : Region.free md ops listed i = true) (hr : (Region.ready md ops listed).contains i = true)
    (hQ : ∀ c a w, Q (.panic c) (a.put d v) w → Q (.panic c) a w) (hy : YieldsIf P ops S oi v a) (hS : S w)
    (h : wpAnyH P md ops Q S fuel (listed.setIfInBounds i true) (a.put d v) w) : wpAnyH P md ops Q S (fuel + 1) listed a w := by
  subst hd
  exact wpAnyH_take hi hs hf hr hQ hy hS h
theorem recvStatus_bd (rr rt : Int) (gs : List (Int × Int)) (rl : Bool) (ra : Int) : -1 ≤ recvStatus rr rt gs rl ra ∧ recvStatus rr rt gs rl ra ≤ 15 := by
  unfold recvStatus codeBits
  split
  · split <;> split
    · omega
    · split
      · omega
      · split <;> omega
    · omega
    · split
      · omega
      · split <;> omega
  · omega
theorem sendStatus_bd (sr : Int) (xs : List Int) (sh sl : Int) : -1 ≤ sendStatus sr xs sh sl ∧ sendStatus sr xs sh sl ≤ 96 := by
  unfold sendStatus
  split
  · split
    · omega
    · split <;> omega
  · omega
set_option maxHeartbeats 4000000 in
theorem l15Status_any {b p s en ct rr rt ra sr sh sl : Int} {rl ma mb mc md : Bool} {rn sn : Nat} {gs : List (Int × Int)} {xs : List Int} {RA SA : Option Addr} {rc sc : Nat} (w : World) (hg : Gots w RA rn gs) (hx : Ints w SA sn xs) (hrn : rn ≤ 1048576) (hsn : sn ≤ 1048576) :
    Calls Try.prog 21 #[.agg #[.int .i64 b, .int .i64 p, .int .i64 s, .int .i64 en, .int .i64 ct, .int .i64 rr, .int .i64 rt, .slice RA rn rc, .bool rl, .int .i64 ra, .int .i64 sr, .slice SA sn sc, .int .i64 sh, .int .i64 sl, .bool ma, .bool mb, .bool mc, .bool md]] w fun e w' => e = .returned (.int .i64 (recvStatus rr rt gs rl ra + sendStatus sr xs sh sl)) ∧ Below w.heap.size w w' := by
  have c1 := fun w h => spec_RecvStatus rr rt RA rn rc rl ra gs w h hrn
  have c2 := fun w h => spec_SendStatus sr SA sn sc sh sl xs w h (by omega)
  obtain ⟨d1, d2⟩ := recvStatus_bd rr rt gs rl ra
  obtain ⟨d3, d4⟩ := sendStatus_bd sr xs sh sl
  generalize recvStatus rr rt gs rl ra = st1 at *
  generalize sendStatus sr xs sh sl = st2 at *
  have C1 := Lib.hid c1
  have C2 := Lib.hid c2
  clear c1 c2
  go_enter Try.func21, Try.ntmps21
  go_wp2
  refine wp_region_held_drew (S := fun w' => Blk w' w.heap.size 43 #[.int .i64 b, .int .i64 p, .int .i64 s, .int .i64 en, .int .i64 ct, .int .i64 rr, .int .i64 rt, .slice RA rn rc, .bool rl, .int .i64 ra, .int .i64 sr, .slice SA sn sc, .int .i64 sh, .int .i64 sl, .bool ma, .bool mb, .bool mc, .bool md]) (by kernel_rfl) (Blk.drew (Blk.new _ _ _)) (fun hHeld => ?_)
  refine wpAnyH_takeD (i := 0) (v := ?_) (d := some 3) rfl rfl (by kernel_rfl) (by kernel_rfl) (by kernel_rfl) (fun _ _ _ h => h) (Or.inl ⟨by rfl, ?_⟩) (by assumption) ?_
  rotate_left 1
  · (intro w hSw; first | (go_simp; done) | (go_simp; with_reducible rfl))
  try simp only [Act.put, List.setIfInBounds_toArray, List.set_cons_zero, List.set_cons_succ]
  refine wpAnyH_takeD (i := 1) (d := some 4) rfl rfl (by kernel_rfl) (by kernel_rfl) (by kernel_rfl) (fun _ _ _ h => h) (yieldsIf_load_mid (by rfl) 39 (.tmp 3) rfl (w.heap.size) 5 rfl [.int .i64 rr, .int .i64 rt, .slice RA rn rc, .bool rl, .int .i64 ra] _ (fun w hSw => Blk.range (hSw) 5 (n := ([.int .i64 rr, .int .i64 rt, .slice RA rn rc, .bool rl, .int .i64 ra] : List Value).length) rfl) Try.underlying39 rfl sz_impl_Receiver) (by assumption) ?_
  try simp only [Act.put, List.setIfInBounds_toArray, List.set_cons_zero, List.set_cons_succ]
  refine wpAnyH_takeD (i := 3) (v := ?_) (d := some 6) rfl rfl (by kernel_rfl) (by kernel_rfl) (by kernel_rfl) (fun _ _ _ h => h) (Or.inl ⟨by rfl, ?_⟩) (by assumption) ?_
  rotate_left 1
  · (intro w hSw; first | (go_simp; done) | (go_simp; with_reducible rfl))
  try simp only [Act.put, List.setIfInBounds_toArray, List.set_cons_zero, List.set_cons_succ]
  refine wpAnyH_takeD (i := 4) (d := some 7) rfl rfl (by kernel_rfl) (by kernel_rfl) (by kernel_rfl) (fun _ _ _ h => h) (yieldsIf_load_mid (by rfl) 40 (.tmp 6) rfl (w.heap.size) 10 rfl [.int .i64 sr, .slice SA sn sc, .int .i64 sh, .int .i64 sl] _ (fun w hSw => Blk.range (hSw) 10 (n := ([.int .i64 sr, .slice SA sn sc, .int .i64 sh, .int .i64 sl] : List Value).length) rfl) Try.underlying40 rfl sz_impl_Sender) (by assumption) ?_
  try simp only [Act.put, List.setIfInBounds_toArray, List.set_cons_zero, List.set_cons_succ]
  refine wpAnyH_ready (rs := [2]) (by kernel_rfl) (by simp) ?_
  refine AllReadyH.cons rfl (fun K hK => ?_) AllReadyH.nil
  go_simp
  (with_reducible refine (C1.out _ (hg.below (by repeat (first | (with_reducible exact b_refl _) | (with_reducible refine b_alloc ?_ _) | (with_reducible refine b_drew ?_) | (with_reducible refine b_drewN ?_ _) | (with_reducible refine b_set ?_ ?_ _) | (with_reducible refine b_trans ?_ (by assumption)) | (with_reducible refine b_only ?_ (by assumption) ?_) | omega | (focus (simp; done)) | (focus (simp; omega)))))).mono ?_); rintro e w1 ⟨rfl, hb1⟩
  have F1 := (Blk.drew (Blk.new w 43 #[.int .i64 b, .int .i64 p, .int .i64 s, .int .i64 en, .int .i64 ct, .int .i64 rr, .int .i64 rt, .slice RA rn rc, .bool rl, .int .i64 ra, .int .i64 sr, .slice SA sn sc, .int .i64 sh, .int .i64 sl, .bool ma, .bool mb, .bool mc, .bool md])).below hb1 (Blk.drew (Blk.new w 43 #[.int .i64 b, .int .i64 p, .int .i64 s, .int .i64 en, .int .i64 ct, .int .i64 rr, .int .i64 rt, .slice RA rn rc, .bool rl, .int .i64 ra, .int .i64 sr, .slice SA sn sc, .int .i64 sh, .int .i64 sl, .bool ma, .bool mb, .bool mc, .bool md])).lt
  go_wp2
  refine hK.out _ _ F1 (fun hHeld1 => ?_)
  clear hHeld
  clear hK K
  try simp only [Act.put, List.setIfInBounds_toArray, List.set_cons_zero, List.set_cons_succ]
  refine wpAnyH_ready (rs := [5]) (by kernel_rfl) (by simp) ?_
  refine AllReadyH.cons rfl (fun K hK => ?_) AllReadyH.nil
  go_simp
  (with_reducible refine (C2.out _ (hx.below (by repeat (first | (with_reducible exact b_refl _) | (with_reducible refine b_alloc ?_ _) | (with_reducible refine b_drew ?_) | (with_reducible refine b_drewN ?_ _) | (with_reducible refine b_set ?_ ?_ _) | (with_reducible refine b_trans ?_ (by assumption)) | (with_reducible refine b_only ?_ (by assumption) ?_) | omega | (focus (simp; done)) | (focus (simp; omega)))))).mono ?_); rintro e w2 ⟨rfl, hb2⟩
  have F2 := F1.below hb2 F1.lt
  go_wp2
  refine hK.out _ _ F2 (fun hHeld2 => ?_)
  clear hHeld1
  clear hK K
  try simp only [Act.put, List.setIfInBounds_toArray, List.set_cons_zero, List.set_cons_succ]
  refine wpAnyH_takeD (i := 6) (v := ?_) (d := some 9) rfl rfl (by kernel_rfl) (by kernel_rfl) (by kernel_rfl) (fun _ _ _ h => h) (Or.inl ⟨by rfl, ?_⟩) (by assumption) ?_
  rotate_left 1
  · (intro w hSw; first | (go_simp; done) | (go_simp; with_reducible rfl))
  try simp only [Act.put, List.setIfInBounds_toArray, List.set_cons_zero, List.set_cons_succ]
  refine wpAnyH_takeD (i := 7) (v := ?_) (d := some 2) rfl rfl (by kernel_rfl) (by kernel_rfl) (by kernel_rfl) (fun _ _ _ h => h) (Or.inl ⟨by rfl, ?_⟩) (by assumption) ?_
  rotate_left 1
  · (intro w hSw; first | (go_simp; done) | (go_simp; with_reducible rfl))
  try simp only [Act.put, List.setIfInBounds_toArray, List.set_cons_zero, List.set_cons_succ]
  refine wpAnyH_done (by kernel_rfl) ?_ _
  go_wp2
  go_ret
  exact ⟨ret_int (by rw [IntKind.wrap_i64]; omega), (by repeat (first | (with_reducible exact b_refl _) | (with_reducible refine b_alloc ?_ _) | (with_reducible refine b_drew ?_) | (with_reducible refine b_drewN ?_ _) | (with_reducible refine b_set ?_ ?_ _) | (with_reducible refine b_trans ?_ (by assumption)) | (with_reducible refine b_only ?_ (by assumption) ?_) | omega | (focus (simp; done)) | (focus (simp; omega))))⟩
set_option maxHeartbeats 4000000 in
theorem ends_status {b p s en ct rr rt ra sr sh sl : Int} {rl ma mb mc md : Bool} {rn sn : Nat} {gs : List (Int × Int)} {xs : List Int} {RA SA : Option Addr} {rc sc : Nat} (w : World) (hg : Gots w RA rn gs) (hx : Ints w SA sn xs) (hrn : rn ≤ 1048576) (hsn : sn ≤ 1048576) :
    Calls Try.prog 30 #[.agg #[.int .i64 rr, .int .i64 rt, .slice RA rn rc, .bool rl, .int .i64 ra, .int .i64 sr, .slice SA sn sc, .int .i64 sh, .int .i64 sl]] w fun e w' => e = .returned (.int .i64 (recvStatus rr rt gs rl ra + sendStatus sr xs sh sl)) ∧ Below w.heap.size w w' := by
  have c1 := fun w h => impl_RecvStatus rr rt RA rn rc rl ra gs w h hrn
  have c2 := fun w h => impl_SendStatus sr SA sn sc sh sl xs w h (by omega)
  obtain ⟨d1, d2⟩ := recvStatus_bd rr rt gs rl ra
  obtain ⟨d3, d4⟩ := sendStatus_bd sr xs sh sl
  generalize recvStatus rr rt gs rl ra = st1 at *
  generalize sendStatus sr xs sh sl = st2 at *
  have C1 := Lib.hid c1
  have C2 := Lib.hid c2
  clear c1 c2
  go_enter Try.func30, Try.ntmps30
  go_wp2
  refine wp_region_held_drew (S := fun w' => Blk w' w.heap.size 63 #[.int .i64 rr, .int .i64 rt, .slice RA rn rc, .bool rl, .int .i64 ra, .int .i64 sr, .slice SA sn sc, .int .i64 sh, .int .i64 sl]) (by kernel_rfl) (Blk.drew (Blk.new _ _ _)) (fun hHeld => ?_)
  refine wpAnyH_takeD (i := 0) (v := ?_) (d := some 3) rfl rfl (by kernel_rfl) (by kernel_rfl) (by kernel_rfl) (fun _ _ _ h => h) (Or.inl ⟨by rfl, ?_⟩) (by assumption) ?_
  rotate_left 1
  · (intro w hSw; first | (go_simp; done) | (go_simp; with_reducible rfl))
  try simp only [Act.put, List.setIfInBounds_toArray, List.set_cons_zero, List.set_cons_succ]
  refine wpAnyH_takeD (i := 1) (d := some 4) rfl rfl (by kernel_rfl) (by kernel_rfl) (by kernel_rfl) (fun _ _ _ h => h) (yieldsIf_load_mid (by rfl) 39 (.tmp 3) rfl (w.heap.size) 0 rfl [.int .i64 rr, .int .i64 rt, .slice RA rn rc, .bool rl, .int .i64 ra] _ (fun w hSw => Blk.range (hSw) 0 (n := ([.int .i64 rr, .int .i64 rt, .slice RA rn rc, .bool rl, .int .i64 ra] : List Value).length) rfl) Try.underlying39 rfl sz_impl_Receiver) (by assumption) ?_
  try simp only [Act.put, List.setIfInBounds_toArray, List.set_cons_zero, List.set_cons_succ]
  refine wpAnyH_takeD (i := 3) (v := ?_) (d := some 6) rfl rfl (by kernel_rfl) (by kernel_rfl) (by kernel_rfl) (fun _ _ _ h => h) (Or.inl ⟨by rfl, ?_⟩) (by assumption) ?_
  rotate_left 1
  · (intro w hSw; first | (go_simp; done) | (go_simp; with_reducible rfl))
  try simp only [Act.put, List.setIfInBounds_toArray, List.set_cons_zero, List.set_cons_succ]
  refine wpAnyH_takeD (i := 4) (d := some 7) rfl rfl (by kernel_rfl) (by kernel_rfl) (by kernel_rfl) (fun _ _ _ h => h) (yieldsIf_load_mid (by rfl) 40 (.tmp 6) rfl (w.heap.size) 5 rfl [.int .i64 sr, .slice SA sn sc, .int .i64 sh, .int .i64 sl] _ (fun w hSw => Blk.range (hSw) 5 (n := ([.int .i64 sr, .slice SA sn sc, .int .i64 sh, .int .i64 sl] : List Value).length) rfl) Try.underlying40 rfl sz_impl_Sender) (by assumption) ?_
  try simp only [Act.put, List.setIfInBounds_toArray, List.set_cons_zero, List.set_cons_succ]
  refine wpAnyH_ready (rs := [2]) (by kernel_rfl) (by simp) ?_
  refine AllReadyH.cons rfl (fun K hK => ?_) AllReadyH.nil
  go_simp
  (with_reducible refine (C1.out _ (hg.below (by repeat (first | (with_reducible exact b_refl _) | (with_reducible refine b_alloc ?_ _) | (with_reducible refine b_drew ?_) | (with_reducible refine b_drewN ?_ _) | (with_reducible refine b_set ?_ ?_ _) | (with_reducible refine b_trans ?_ (by assumption)) | (with_reducible refine b_only ?_ (by assumption) ?_) | omega | (focus (simp; done)) | (focus (simp; omega)))))).mono ?_); rintro e w1 ⟨rfl, hb1⟩
  have F1 := (Blk.drew (Blk.new w 63 #[.int .i64 rr, .int .i64 rt, .slice RA rn rc, .bool rl, .int .i64 ra, .int .i64 sr, .slice SA sn sc, .int .i64 sh, .int .i64 sl])).below hb1 (Blk.drew (Blk.new w 63 #[.int .i64 rr, .int .i64 rt, .slice RA rn rc, .bool rl, .int .i64 ra, .int .i64 sr, .slice SA sn sc, .int .i64 sh, .int .i64 sl])).lt
  go_wp2
  refine hK.out _ _ F1 (fun hHeld1 => ?_)
  clear hHeld
  clear hK K
  try simp only [Act.put, List.setIfInBounds_toArray, List.set_cons_zero, List.set_cons_succ]
  refine wpAnyH_ready (rs := [5]) (by kernel_rfl) (by simp) ?_
  refine AllReadyH.cons rfl (fun K hK => ?_) AllReadyH.nil
  go_simp
  (with_reducible refine (C2.out _ (hx.below (by repeat (first | (with_reducible exact b_refl _) | (with_reducible refine b_alloc ?_ _) | (with_reducible refine b_drew ?_) | (with_reducible refine b_drewN ?_ _) | (with_reducible refine b_set ?_ ?_ _) | (with_reducible refine b_trans ?_ (by assumption)) | (with_reducible refine b_only ?_ (by assumption) ?_) | omega | (focus (simp; done)) | (focus (simp; omega)))))).mono ?_); rintro e w2 ⟨rfl, hb2⟩
  have F2 := F1.below hb2 F1.lt
  go_wp2
  refine hK.out _ _ F2 (fun hHeld2 => ?_)
  clear hHeld1
  clear hK K
  try simp only [Act.put, List.setIfInBounds_toArray, List.set_cons_zero, List.set_cons_succ]
  refine wpAnyH_takeD (i := 6) (v := ?_) (d := some 9) rfl rfl (by kernel_rfl) (by kernel_rfl) (by kernel_rfl) (fun _ _ _ h => h) (Or.inl ⟨by rfl, ?_⟩) (by assumption) ?_
  rotate_left 1
  · (intro w hSw; first | (go_simp; done) | (go_simp; with_reducible rfl))
  try simp only [Act.put, List.setIfInBounds_toArray, List.set_cons_zero, List.set_cons_succ]
  refine wpAnyH_takeD (i := 7) (v := ?_) (d := some 2) rfl rfl (by kernel_rfl) (by kernel_rfl) (by kernel_rfl) (fun _ _ _ h => h) (Or.inl ⟨by rfl, ?_⟩) (by assumption) ?_
  rotate_left 1
  · (intro w hSw; first | (go_simp; done) | (go_simp; with_reducible rfl))
  try simp only [Act.put, List.setIfInBounds_toArray, List.set_cons_zero, List.set_cons_succ]
  refine wpAnyH_done (by kernel_rfl) ?_ _
  go_wp2
  go_ret
  exact ⟨ret_int (by rw [IntKind.wrap_i64]; omega), (by repeat (first | (with_reducible exact b_refl _) | (with_reducible refine b_alloc ?_ _) | (with_reducible refine b_drew ?_) | (with_reducible refine b_drewN ?_ _) | (with_reducible refine b_set ?_ ?_ _) | (with_reducible refine b_trans ?_ (by assumption)) | (with_reducible refine b_only ?_ (by assumption) ?_) | omega | (focus (simp; done)) | (focus (simp; omega))))⟩
set_option maxHeartbeats 1000000 in
theorem ends_ready {b p s en ct rr rt ra sr sh sl : Int} {rl ma mb mc md : Bool} {rn sn : Nat} {gs : List (Int × Int)} {xs : List Int} {RA SA : Option Addr} {rc sc : Nat} (w : World) (hg : Gots w RA rn gs) (hx : Ints w SA sn xs) (hrn : rn ≤ 1048576) (hsn : sn ≤ 1048576) :
    Calls Try.prog 31 #[.agg #[.int .i64 rr, .int .i64 rt, .slice RA rn rc, .bool rl, .int .i64 ra, .int .i64 sr, .slice SA sn sc, .int .i64 sh, .int .i64 sl]] w fun e w' => e = .returned (.int .i64 (recvReady rr rt gs ra)) ∧ Below w.heap.size w w' := by
  go_enter Try.func31, Try.ntmps31
  go_wp2_with (first | (refine at_load 39 (.tmp 3) rfl ?_; go_must (refine wpList_loadB (Blk.now (Blk.new w _ _) (by repeat (first | (with_reducible exact (Blk.new w _ _)) | (with_reducible refine Blk.drew ?_) | (with_reducible refine Blk.drewN ?_ _) | (with_reducible refine Blk.alloc ?_ _) | (with_reducible refine Blk.far ?_ ?_ _) | omega | (focus (simp; done)) | (focus (simp; omega))))) 39 (.tmp 3) rfl (by rfl) 0 rfl [.int .i64 rr, .int .i64 rt, .slice RA rn rc, .bool rl, .int .i64 ra] rfl Try.underlying39 rfl sz_impl_Receiver ?_)) | (go_at_call 60; go_must ((with_reducible refine (impl_RecvReady rr rt RA rn rc rl ra gs _ (hg.below (by repeat (first | (with_reducible exact b_refl _) | (with_reducible refine b_alloc ?_ _) | (with_reducible refine b_drew ?_) | (with_reducible refine b_drewN ?_ _) | (with_reducible refine b_set ?_ ?_ _) | (with_reducible refine b_trans ?_ (by assumption)) | (with_reducible refine b_only ?_ (by assumption) ?_) | omega | (focus (simp; done)) | (focus (simp; omega))))) hrn).mono ?_); rintro e w1 ⟨rfl, hb1⟩; have hz1 := hb1.size; (try simp at hz1))))
  go_ret
  exact ⟨rfl, (by repeat (first | (with_reducible exact b_refl _) | (with_reducible refine b_alloc ?_ _) | (with_reducible refine b_drew ?_) | (with_reducible refine b_drewN ?_ _) | (with_reducible refine b_set ?_ ?_ _) | (with_reducible refine b_trans ?_ (by assumption)) | (with_reducible refine b_only ?_ (by assumption) ?_) | omega | (focus (simp; done)) | (focus (simp; omega))))⟩
def PortD.irq (d : PortD) : Int := if d.ok = true then irqAll (recvStatus d.rr d.rt d.gs d.rl d.ra + sendStatus d.sr d.xs d.sh d.sl) (recvReady d.rr d.rt d.gs d.ra) (d.mc || d.md) d.en else 1
set_option maxRecDepth 100000 in
set_option maxHeartbeats 8000000 in
theorem spec_PortIrqW (cs : List Value) (d : PortD) (w : World) (h : PortIs w cs d) (hs : d.small) (v : Int) (hv : d.irq = v) :
    Calls Try.prog 9 #[.agg cs.toArray] w fun e w' => e = .returned (.int .i64 v) ∧ Below w.heap.size w w' := by
  subst hv
  have cv := spec_PortValidW cs d
  have hl := Lib.hid h.len
  rw [PortD.irq]
  by_cases k : d.ok = true
  case' neg =>
    have k2 : d.ok = false := by simpa using k
    rw [if_neg k]
    have CV := Lib.hid (fun w h => cv w h hs false k2)
    clear cv k k2
    go_enter Try.func9, Try.ntmps9
    go_wp2_with (first | ((with_reducible refine at_load 43 (.tmp 1) rfl ?_); go_must (refine wpList_loadB (by repeat (first | (with_reducible exact (Blk.new w _ _)) | (with_reducible apply Blk.drew) | (with_reducible apply Blk.drewN) | (with_reducible apply Blk.alloc) | (with_reducible apply Blk.far) | omega | (focus (simp; done)) | (focus (simp; omega)))) 43 (.tmp 1) rfl (by rfl) 0 rfl (cs) (sub_all cs) Try.underlying43 rfl (sz_impl_Port.trans (congrArg some (Eq.symm (hl.out)))) ?_)) | (go_at_call 20; go_must ((with_reducible refine (CV.out _ (h.below (by repeat (first | (with_reducible exact b_refl _) | (with_reducible refine b_alloc ?_ _) | (with_reducible refine b_drew ?_) | (with_reducible refine b_drewN ?_ _) | (with_reducible refine b_set ?_ ?_ _) | (with_reducible refine b_trans ?_ (by assumption)) | (with_reducible refine b_only ?_ (by assumption) ?_) | omega | (focus (simp; done)) | (focus (simp; omega)))))).mono ?_); rintro e w1 ⟨rfl, hb1⟩; have hz1 := hb1.size; (try simp at hz1))))
    go_ret
    exact ⟨rfl, (by repeat (first | (with_reducible exact b_refl _) | (with_reducible refine b_alloc ?_ _) | (with_reducible refine b_drew ?_) | (with_reducible refine b_drewN ?_ _) | (with_reducible refine b_set ?_ ?_ _) | (with_reducible refine b_trans ?_ (by assumption)) | (with_reducible refine b_only ?_ (by assumption) ?_) | omega | (focus (simp; done)) | (focus (simp; omega))))⟩
  rw [if_pos k]
  have CV := Lib.hid (fun w h => cv w h hs true k)
  clear cv k
  have h0 := h
  obtain ⟨b, p, s, en, ct, rr, rt, ra, sr, sh, sl, rl, ma, mb, mc, md, gs, xs⟩ := d
  obtain ⟨RA, SA, rn, sn, rc, sc, rfl, hg, hx⟩ := h
  have hrn : rn ≤ 1048576 := hg.len ▸ hs.1
  have hsn : sn ≤ 1048576 := hx.len ▸ hs.2
  have c1 := fun w h1 h2 => l15Status_any (b := b) (p := p) (s := s) (en := en) (ct := ct) (rr := rr) (rt := rt) (ra := ra) (sr := sr) (sh := sh) (sl := sl) (rl := rl) (ma := ma) (mb := mb) (mc := mc) (md := md) (RA := RA) (SA := SA) (rc := rc) (sc := sc) (gs := gs) (xs := xs) w h1 h2 hrn hsn
  have c2 := fun w h => spec_RecvReady rr rt RA rn rc rl ra gs w h hrn
  have c3 := fun w => spec_ModemChanged ma mb mc md w
  have c4 := fun st rd w => spec_IrqOf st rd en (mc || md) w
  simp only
  generalize recvStatus rr rt gs rl ra + sendStatus sr xs sh sl = st at *
  generalize recvReady rr rt gs ra = rd at *
  generalize (mc || md) = mch at *
  have C1 := Lib.hid c1
  have C2 := Lib.hid c2
  have C3 := Lib.hid c3
  have C4 := Lib.hid c4
  clear c1 c2 c3 c4
  go_enter Try.func9, Try.ntmps9
  go_wp2_with (refine at_load 43 (.tmp 1) rfl ?_; go_must (refine wpList_loadB (Blk.now (Blk.new w _ _) (by repeat (first | (with_reducible exact (Blk.new w _ _)) | (with_reducible refine Blk.drew ?_) | (with_reducible refine Blk.drewN ?_ _) | (with_reducible refine Blk.alloc ?_ _) | (with_reducible refine Blk.far ?_ ?_ _) | omega | (focus (simp; done)) | (focus (simp; omega))))) 43 (.tmp 1) rfl (by rfl) 0 rfl [.int .i64 b, .int .i64 p, .int .i64 s, .int .i64 en, .int .i64 ct, .int .i64 rr, .int .i64 rt, .slice RA rn rc, .bool rl, .int .i64 ra, .int .i64 sr, .slice SA sn sc, .int .i64 sh, .int .i64 sl, .bool ma, .bool mb, .bool mc, .bool md] rfl Try.underlying43 rfl sz_impl_Port ?_))
  go_wp2_with fail
  (with_reducible refine (CV.out _ (h0.below (by repeat (first | (with_reducible exact b_refl _) | (with_reducible refine b_alloc ?_ _) | (with_reducible refine b_drew ?_) | (with_reducible refine b_drewN ?_ _) | (with_reducible refine b_set ?_ ?_ _) | (with_reducible refine b_trans ?_ (by assumption)) | (with_reducible refine b_only ?_ (by assumption) ?_) | omega | (focus (simp; done)) | (focus (simp; omega)))))).mono ?_); rintro e w1 ⟨rfl, hb1⟩; have hz1 := hb1.size; (try simp at hz1); have F1 := (Blk.new w _ _).below hb1 (by first | omega | (simp; done) | (simp; omega)); (try simp only [World.size_alloc, List.setIfInBounds_toArray, List.set_cons_zero, List.set_cons_succ] at F1); have F1l := F1.lt; (try simp only [World.size_alloc] at F1l)
  go_wp2
  refine wp_region_held_drew (S := fun w' => Blk w' w.heap.size 43 #[.int .i64 b, .int .i64 p, .int .i64 s, .int .i64 en, .int .i64 ct, .int .i64 rr, .int .i64 rt, .slice RA rn rc, .bool rl, .int .i64 ra, .int .i64 sr, .slice SA sn sc, .int .i64 sh, .int .i64 sl, .bool ma, .bool mb, .bool mc, .bool md]) (by kernel_rfl) (Blk.drew F1) (fun hHeld => ?_)
  refine wpAnyH_takeD (i := 0) (d := some 6) rfl rfl (by kernel_rfl) (by kernel_rfl) (by kernel_rfl) (fun _ _ _ h => h) (yieldsIf_load_mid (by rfl) 43 (.tmp 1) rfl (w.heap.size) 0 rfl [.int .i64 b, .int .i64 p, .int .i64 s, .int .i64 en, .int .i64 ct, .int .i64 rr, .int .i64 rt, .slice RA rn rc, .bool rl, .int .i64 ra, .int .i64 sr, .slice SA sn sc, .int .i64 sh, .int .i64 sl, .bool ma, .bool mb, .bool mc, .bool md] _ (fun w hSw => Blk.range (hSw) 0 (n := ([.int .i64 b, .int .i64 p, .int .i64 s, .int .i64 en, .int .i64 ct, .int .i64 rr, .int .i64 rt, .slice RA rn rc, .bool rl, .int .i64 ra, .int .i64 sr, .slice SA sn sc, .int .i64 sh, .int .i64 sl, .bool ma, .bool mb, .bool mc, .bool md] : List Value).length) rfl) Try.underlying43 rfl sz_impl_Port) (by assumption) ?_
  try simp only [Act.put, List.setIfInBounds_toArray, List.set_cons_zero, List.set_cons_succ]
  refine wpAnyH_takeD (i := 2) (v := ?_) (d := some 8) rfl rfl (by kernel_rfl) (by kernel_rfl) (by kernel_rfl) (fun _ _ _ h => h) (Or.inl ⟨by rfl, ?_⟩) (by assumption) ?_
  rotate_left 1
  · (intro w hSw; first | (go_simp; done) | (go_simp; with_reducible rfl))
  try simp only [Act.put, List.setIfInBounds_toArray, List.set_cons_zero, List.set_cons_succ]
  refine wpAnyH_takeD (i := 3) (d := some 9) rfl rfl (by kernel_rfl) (by kernel_rfl) (by kernel_rfl) (fun _ _ _ h => h) (yieldsIf_load_mid (by rfl) 39 (.tmp 8) rfl (w.heap.size) 5 rfl [.int .i64 rr, .int .i64 rt, .slice RA rn rc, .bool rl, .int .i64 ra] _ (fun w hSw => Blk.range (hSw) 5 (n := ([.int .i64 rr, .int .i64 rt, .slice RA rn rc, .bool rl, .int .i64 ra] : List Value).length) rfl) Try.underlying39 rfl sz_impl_Receiver) (by assumption) ?_
  try simp only [Act.put, List.setIfInBounds_toArray, List.set_cons_zero, List.set_cons_succ]
  refine wpAnyH_takeD (i := 5) (v := ?_) (d := some 11) rfl rfl (by kernel_rfl) (by kernel_rfl) (by kernel_rfl) (fun _ _ _ h => h) (Or.inl ⟨by rfl, ?_⟩) (by assumption) ?_
  rotate_left 1
  · (intro w hSw; first | (go_simp; done) | (go_simp; with_reducible rfl))
  try simp only [Act.put, List.setIfInBounds_toArray, List.set_cons_zero, List.set_cons_succ]
  refine wpAnyH_takeD (i := 6) (d := some 12) rfl rfl (by kernel_rfl) (by kernel_rfl) (by kernel_rfl) (fun _ _ _ h => h) (yieldsIf_load_mid (by rfl) 41 (.tmp 11) rfl (w.heap.size) 14 rfl [.bool ma, .bool mb, .bool mc, .bool md] _ (fun w hSw => Blk.range (hSw) 14 (n := ([.bool ma, .bool mb, .bool mc, .bool md] : List Value).length) rfl) Try.underlying41 rfl sz_impl_Modem) (by assumption) ?_
  try simp only [Act.put, List.setIfInBounds_toArray, List.set_cons_zero, List.set_cons_succ]
  refine wpAnyH_takeD (i := 8) (v := ?_) (d := some 14) rfl rfl (by kernel_rfl) (by kernel_rfl) (by kernel_rfl) (fun _ _ _ h => h) (Or.inl ⟨by rfl, ?_⟩) (by assumption) ?_
  rotate_left 1
  · (intro w hSw; first | (go_simp; done) | (go_simp; with_reducible rfl))
  try simp only [Act.put, List.setIfInBounds_toArray, List.set_cons_zero, List.set_cons_succ]
  refine wpAnyH_takeD (i := 9) (v := ?_) (d := some 15) rfl rfl (by kernel_rfl) (by kernel_rfl) (by kernel_rfl) (fun _ _ _ h => h) (Or.inl ⟨by rfl, ?_⟩) (by assumption) ?_
  rotate_left 1
  · (intro w hSw; have hc := hSw.cellv 3 rfl; first | (go_simp; done) | (go_simp; with_reducible rfl))
  try simp only [Act.put, List.setIfInBounds_toArray, List.set_cons_zero, List.set_cons_succ]
  refine wpAnyH_ready (rs := [1]) (by kernel_rfl) (by simp) ?_
  refine AllReadyH.cons rfl (fun K hK => ?_) AllReadyH.nil
  go_simp
  (with_reducible refine (C1.out _ (hg.below (by repeat (first | (with_reducible exact b_refl _) | (with_reducible refine b_alloc ?_ _) | (with_reducible refine b_drew ?_) | (with_reducible refine b_drewN ?_ _) | (with_reducible refine b_set ?_ ?_ _) | (with_reducible refine b_trans ?_ (by assumption)) | (with_reducible refine b_only ?_ (by assumption) ?_) | omega | (focus (simp; done)) | (focus (simp; omega))))) (hx.below (by repeat (first | (with_reducible exact b_refl _) | (with_reducible refine b_alloc ?_ _) | (with_reducible refine b_drew ?_) | (with_reducible refine b_drewN ?_ _) | (with_reducible refine b_set ?_ ?_ _) | (with_reducible refine b_trans ?_ (by assumption)) | (with_reducible refine b_only ?_ (by assumption) ?_) | omega | (focus (simp; done)) | (focus (simp; omega)))))).mono ?_); rintro e w11 ⟨rfl, hb11⟩
  have G110 := (Blk.drew F1).below hb11 (Blk.drew F1).lt
  go_wp2
  refine hK.out _ _ G110 (fun hHeld11 => ?_)
  clear hK K
  try simp only [Act.put, List.setIfInBounds_toArray, List.set_cons_zero, List.set_cons_succ]
  refine wpAnyH_ready (rs := [4]) (by kernel_rfl) (by simp) ?_
  refine AllReadyH.cons rfl (fun K hK => ?_) AllReadyH.nil
  go_simp
  (with_reducible refine (C2.out _ (hg.below (by repeat (first | (with_reducible exact b_refl _) | (with_reducible refine b_alloc ?_ _) | (with_reducible refine b_drew ?_) | (with_reducible refine b_drewN ?_ _) | (with_reducible refine b_set ?_ ?_ _) | (with_reducible refine b_trans ?_ (by assumption)) | (with_reducible refine b_only ?_ (by assumption) ?_) | omega | (focus (simp; done)) | (focus (simp; omega)))))).mono ?_); rintro e w12 ⟨rfl, hb12⟩
  have G120 := (G110).below hb12 (G110).lt
  go_wp2
  refine hK.out _ _ G120 (fun hHeld12 => ?_)
  clear hK K
  try simp only [Act.put, List.setIfInBounds_toArray, List.set_cons_zero, List.set_cons_succ]
  refine wpAnyH_ready (rs := [7]) (by kernel_rfl) (by simp) ?_
  refine AllReadyH.cons rfl (fun K hK => ?_) AllReadyH.nil
  go_simp
  (with_reducible refine (C3.out _).mono ?_); rintro e w13 ⟨rfl, hb13⟩
  have G130 := (G120).below hb13 (G120).lt
  go_wp2
  refine hK.out _ _ G130 (fun hHeld13 => ?_)
  clear hK K
  try simp only [Act.put, List.setIfInBounds_toArray, List.set_cons_zero, List.set_cons_succ]
  refine wpAnyH_ready (rs := [10]) (by kernel_rfl) (by simp) ?_
  refine AllReadyH.cons rfl (fun K hK => ?_) AllReadyH.nil
  go_simp
  (with_reducible refine (C4.out _ _ _).mono ?_); rintro e w14 ⟨rfl, hb14⟩
  have G140 := (G130).below hb14 (G130).lt
  go_wp2
  refine hK.out _ _ G140 (fun hHeld14 => ?_)
  clear hK K
  try simp only [Act.put, List.setIfInBounds_toArray, List.set_cons_zero, List.set_cons_succ]
  refine wpAnyH_takeD (i := 11) (v := ?_) (d := some 2) rfl rfl (by kernel_rfl) (by kernel_rfl) (by kernel_rfl) (fun _ _ _ h => h) (Or.inl ⟨by rfl, ?_⟩) (by assumption) ?_
  rotate_left 1
  · (intro w hSw; first | (go_simp; done) | (go_simp; with_reducible rfl))
  try simp only [Act.put, List.setIfInBounds_toArray, List.set_cons_zero, List.set_cons_succ]
  refine wpAnyH_done (by kernel_rfl) ?_ _
  go_wp2
  go_ret
  exact ⟨rfl, (by repeat (first | (with_reducible exact b_refl _) | (with_reducible refine b_alloc ?_ _) | (with_reducible refine b_drew ?_) | (with_reducible refine b_drewN ?_ _) | (with_reducible refine b_set ?_ ?_ _) | (with_reducible refine b_trans ?_ (by assumption)) | (with_reducible refine b_only ?_ (by assumption) ?_) | omega | (focus (simp; done)) | (focus (simp; omega))))⟩
set_option maxRecDepth 100000 in
set_option maxHeartbeats 8000000 in
theorem impl_PortIrqW (cs : List Value) (d : PortD) (w : World) (h : PortIs w cs d) (hs : d.small) (v : Int) (hv : d.irq = v) :
    Calls Try.prog 11 #[.agg cs.toArray] w fun e w' => e = .returned (.int .i64 v) ∧ Below w.heap.size w w' := by
  subst hv
  have cv := impl_PortValidW cs d
  have hl := Lib.hid h.len
  rw [PortD.irq]
  by_cases k : d.ok = true
  case' neg =>
    have k2 : d.ok = false := by simpa using k
    rw [if_neg k]
    have CV := Lib.hid (fun w h => cv w h hs false k2)
    clear cv k k2
    go_enter Try.func11, Try.ntmps11
    go_wp2_with (first | ((with_reducible refine at_load 43 (.tmp 1) rfl ?_); go_must (refine wpList_loadB (by repeat (first | (with_reducible exact (Blk.new w _ _)) | (with_reducible apply Blk.drew) | (with_reducible apply Blk.drewN) | (with_reducible apply Blk.alloc) | (with_reducible apply Blk.far) | omega | (focus (simp; done)) | (focus (simp; omega)))) 43 (.tmp 1) rfl (by rfl) 0 rfl (cs) (sub_all cs) Try.underlying43 rfl (sz_impl_Port.trans (congrArg some (Eq.symm (hl.out)))) ?_)) | (go_at_call 28; go_must ((with_reducible refine (CV.out _ (h.below (by repeat (first | (with_reducible exact b_refl _) | (with_reducible refine b_alloc ?_ _) | (with_reducible refine b_drew ?_) | (with_reducible refine b_drewN ?_ _) | (with_reducible refine b_set ?_ ?_ _) | (with_reducible refine b_trans ?_ (by assumption)) | (with_reducible refine b_only ?_ (by assumption) ?_) | omega | (focus (simp; done)) | (focus (simp; omega)))))).mono ?_); rintro e w1 ⟨rfl, hb1⟩; have hz1 := hb1.size; (try simp at hz1))))
    go_ret
    exact ⟨rfl, (by repeat (first | (with_reducible exact b_refl _) | (with_reducible refine b_alloc ?_ _) | (with_reducible refine b_drew ?_) | (with_reducible refine b_drewN ?_ _) | (with_reducible refine b_set ?_ ?_ _) | (with_reducible refine b_trans ?_ (by assumption)) | (with_reducible refine b_only ?_ (by assumption) ?_) | omega | (focus (simp; done)) | (focus (simp; omega))))⟩
  rw [if_pos k]
  have CV := Lib.hid (fun w h => cv w h hs true k)
  clear cv k
  have h0 := h
  obtain ⟨b, p, s, en, ct, rr, rt, ra, sr, sh, sl, rl, ma, mb, mc, md, gs, xs⟩ := d
  obtain ⟨RA, SA, rn, sn, rc, sc, rfl, hg, hx⟩ := h
  have hrn : rn ≤ 1048576 := hg.len ▸ hs.1
  have hsn : sn ≤ 1048576 := hx.len ▸ hs.2
  have c1 := fun w h1 h2 => ends_status (b := b) (p := p) (s := s) (en := en) (ct := ct) (rr := rr) (rt := rt) (ra := ra) (sr := sr) (sh := sh) (sl := sl) (rl := rl) (ma := ma) (mb := mb) (mc := mc) (md := md) (RA := RA) (SA := SA) (rc := rc) (sc := sc) (gs := gs) (xs := xs) w h1 h2 hrn hsn
  have c2 := fun w h1 h2 => ends_ready (b := b) (p := p) (s := s) (en := en) (ct := ct) (rr := rr) (rt := rt) (ra := ra) (sr := sr) (sh := sh) (sl := sl) (rl := rl) (ma := ma) (mb := mb) (mc := mc) (md := md) (RA := RA) (SA := SA) (rc := rc) (sc := sc) (gs := gs) (xs := xs) w h1 h2 hrn hsn
  have c3 := fun w => impl_ModemChanged ma mb mc md w
  have c4 := fun st rd w => impl_IrqOf st rd en (mc || md) w
  simp only
  generalize recvStatus rr rt gs rl ra + sendStatus sr xs sh sl = st at *
  generalize recvReady rr rt gs ra = rd at *
  generalize (mc || md) = mch at *
  have C1 := Lib.hid c1
  have C2 := Lib.hid c2
  have C3 := Lib.hid c3
  have C4 := Lib.hid c4
  clear c1 c2 c3 c4
  go_enter Try.func11, Try.ntmps11
  go_wp2_with (refine at_load 43 (.tmp 1) rfl ?_; go_must (refine wpList_loadB (Blk.now (Blk.new w _ _) (by repeat (first | (with_reducible exact (Blk.new w _ _)) | (with_reducible refine Blk.drew ?_) | (with_reducible refine Blk.drewN ?_ _) | (with_reducible refine Blk.alloc ?_ _) | (with_reducible refine Blk.far ?_ ?_ _) | omega | (focus (simp; done)) | (focus (simp; omega))))) 43 (.tmp 1) rfl (by rfl) 0 rfl [.int .i64 b, .int .i64 p, .int .i64 s, .int .i64 en, .int .i64 ct, .int .i64 rr, .int .i64 rt, .slice RA rn rc, .bool rl, .int .i64 ra, .int .i64 sr, .slice SA sn sc, .int .i64 sh, .int .i64 sl, .bool ma, .bool mb, .bool mc, .bool md] rfl Try.underlying43 rfl sz_impl_Port ?_))
  go_wp2_with fail
  (with_reducible refine (CV.out _ (h0.below (by repeat (first | (with_reducible exact b_refl _) | (with_reducible refine b_alloc ?_ _) | (with_reducible refine b_drew ?_) | (with_reducible refine b_drewN ?_ _) | (with_reducible refine b_set ?_ ?_ _) | (with_reducible refine b_trans ?_ (by assumption)) | (with_reducible refine b_only ?_ (by assumption) ?_) | omega | (focus (simp; done)) | (focus (simp; omega)))))).mono ?_); rintro e w1 ⟨rfl, hb1⟩; have hz1 := hb1.size; (try simp at hz1); have F1 := (Blk.new w _ _).below hb1 (by first | omega | (simp; done) | (simp; omega)); (try simp only [World.size_alloc, List.setIfInBounds_toArray, List.set_cons_zero, List.set_cons_succ] at F1); have F1l := F1.lt; (try simp only [World.size_alloc] at F1l)
  go_wp2_with (refine at_load 43 (.tmp 1) rfl ?_; go_must (refine wpList_loadB (Blk.now F1 (by repeat (first | (with_reducible exact F1) | (with_reducible refine Blk.drew ?_) | (with_reducible refine Blk.drewN ?_ _) | (with_reducible refine Blk.alloc ?_ _) | (with_reducible refine Blk.far ?_ ?_ _) | omega | (focus (simp; done)) | (focus (simp; omega))))) 43 (.tmp 1) rfl (by rfl) 0 rfl [.int .i64 b, .int .i64 p, .int .i64 s, .int .i64 en, .int .i64 ct, .int .i64 rr, .int .i64 rt, .slice RA rn rc, .bool rl, .int .i64 ra, .int .i64 sr, .slice SA sn sc, .int .i64 sh, .int .i64 sl, .bool ma, .bool mb, .bool mc, .bool md] rfl Try.underlying43 rfl sz_impl_Port ?_))
  go_wp2_with fail
  (with_reducible refine (endsOf_any (gs := gs) (xs := xs) _).mono ?_); rintro e w2 ⟨rfl, hb2⟩; have hz2 := hb2.size; (try simp at hz2); have F2 := Blk.lift F1 hb2 (by repeat (first | (with_reducible exact F1) | (with_reducible refine Blk.drew ?_) | (with_reducible refine Blk.drewN ?_ _) | (with_reducible refine Blk.alloc ?_ _) | (with_reducible refine Blk.far ?_ ?_ _) | omega | (focus (simp; done)) | (focus (simp; omega)))); (try simp only [World.size_alloc, List.setIfInBounds_toArray, List.set_cons_zero, List.set_cons_succ] at F2); have F2l := F2.lt; (try simp only [World.size_alloc] at F2l)
  go_wp2_with ((with_reducible refine at_store 63 (.tmp 3) (.tmp 8) rfl ?_); go_must (refine wpList_storeB (g := w2.heap.size) (t := 63) (cs := #[.int .i64 0, .int .i64 0, .slice none 0 0, .bool false, .int .i64 0, .int .i64 0, .slice none 0 0, .int .i64 0, .int .i64 0]) (by repeat (first | (with_reducible exact (Blk.new w2 _ _)) | (with_reducible refine Blk.drew ?_) | (with_reducible refine Blk.drewN ?_ _) | (with_reducible refine Blk.alloc ?_ _) | (with_reducible refine Blk.far ?_ ?_ _) | omega | (focus (simp; done)) | (focus (simp; omega)))) 63 (.tmp 3) (.tmp 8) rfl (by rfl) 0 rfl [.int .i64 rr, .int .i64 rt, .slice RA rn rc, .bool rl, .int .i64 ra, .int .i64 sr, .slice SA sn sc, .int .i64 sh, .int .i64 sl] rfl sz_impl_portEnds rfl (by simp) [.int .i64 rr, .int .i64 rt, .slice RA rn rc, .bool rl, .int .i64 ra, .int .i64 sr, .slice SA sn sc, .int .i64 sh, .int .i64 sl] rfl ?_; intro w3 N3 ho3; have hz3 := ho3.size; (try simp at hz3); have F3 := Blk.liftO F2 ho3 (by repeat (first | (with_reducible exact F2) | (with_reducible refine Blk.drew ?_) | (with_reducible refine Blk.drewN ?_ _) | (with_reducible refine Blk.alloc ?_ _) | (with_reducible refine Blk.far ?_ ?_ _) | omega | (focus (simp; done)) | (focus (simp; omega)))) (by first | omega | (simp; done) | (simp; omega)); (try simp only [World.size_alloc, List.setIfInBounds_toArray, List.set_cons_zero, List.set_cons_succ] at F3); have F3l := F3.lt; (try simp only [World.size_alloc] at F3l); have E3 := N3; (try simp only [World.size_alloc, List.setIfInBounds_toArray, List.set_cons_zero, List.set_cons_succ] at E3); have E3l := E3.lt; (try simp only [World.size_alloc] at E3l)))
  have hg3 : Gots w3 RA rn gs := hg.below (by repeat (first | (with_reducible exact b_refl _) | (with_reducible refine b_alloc ?_ _) | (with_reducible refine b_drew ?_) | (with_reducible refine b_drewN ?_ _) | (with_reducible refine b_set ?_ ?_ _) | (with_reducible refine b_trans ?_ (by assumption)) | (with_reducible refine b_only ?_ (by assumption) ?_) | omega | (focus (simp; done)) | (focus (simp; omega))))
  have hx3 : Ints w3 SA sn xs := hx.below (by repeat (first | (with_reducible exact b_refl _) | (with_reducible refine b_alloc ?_ _) | (with_reducible refine b_drew ?_) | (with_reducible refine b_drewN ?_ _) | (with_reducible refine b_set ?_ ?_ _) | (with_reducible refine b_trans ?_ (by assumption)) | (with_reducible refine b_only ?_ (by assumption) ?_) | omega | (focus (simp; done)) | (focus (simp; omega))))
  refine wp_region_held_drew (S := fun w' => Blk w' w.heap.size 43 #[.int .i64 b, .int .i64 p, .int .i64 s, .int .i64 en, .int .i64 ct, .int .i64 rr, .int .i64 rt, .slice RA rn rc, .bool rl, .int .i64 ra, .int .i64 sr, .slice SA sn sc, .int .i64 sh, .int .i64 sl, .bool ma, .bool mb, .bool mc, .bool md] ∧ Blk w' w2.heap.size 63 #[.int .i64 rr, .int .i64 rt, .slice RA rn rc, .bool rl, .int .i64 ra, .int .i64 sr, .slice SA sn sc, .int .i64 sh, .int .i64 sl]) (by kernel_rfl) ⟨Blk.drew F3, Blk.drew E3⟩ (fun hHeld => ?_)
  refine wpAnyH_takeD (i := 0) (d := some 9) rfl rfl (by kernel_rfl) (by kernel_rfl) (by kernel_rfl) (fun _ _ _ h => h) (yieldsIf_load_mid (by rfl) 63 (.tmp 3) rfl (w2.heap.size) 0 rfl [.int .i64 rr, .int .i64 rt, .slice RA rn rc, .bool rl, .int .i64 ra, .int .i64 sr, .slice SA sn sc, .int .i64 sh, .int .i64 sl] _ (fun w hSw => Blk.range (hSw.2) 0 (n := ([.int .i64 rr, .int .i64 rt, .slice RA rn rc, .bool rl, .int .i64 ra, .int .i64 sr, .slice SA sn sc, .int .i64 sh, .int .i64 sl] : List Value).length) rfl) Try.underlying63 rfl sz_impl_portEnds) (by assumption) ?_
  try simp only [Act.put, List.setIfInBounds_toArray, List.set_cons_zero, List.set_cons_succ]
  refine wpAnyH_takeD (i := 2) (d := some 11) rfl rfl (by kernel_rfl) (by kernel_rfl) (by kernel_rfl) (fun _ _ _ h => h) (yieldsIf_load_mid (by rfl) 63 (.tmp 3) rfl (w2.heap.size) 0 rfl [.int .i64 rr, .int .i64 rt, .slice RA rn rc, .bool rl, .int .i64 ra, .int .i64 sr, .slice SA sn sc, .int .i64 sh, .int .i64 sl] _ (fun w hSw => Blk.range (hSw.2) 0 (n := ([.int .i64 rr, .int .i64 rt, .slice RA rn rc, .bool rl, .int .i64 ra, .int .i64 sr, .slice SA sn sc, .int .i64 sh, .int .i64 sl] : List Value).length) rfl) Try.underlying63 rfl sz_impl_portEnds) (by assumption) ?_
  try simp only [Act.put, List.setIfInBounds_toArray, List.set_cons_zero, List.set_cons_succ]
  refine wpAnyH_takeD (i := 4) (v := ?_) (d := some 13) rfl rfl (by kernel_rfl) (by kernel_rfl) (by kernel_rfl) (fun _ _ _ h => h) (Or.inl ⟨by rfl, ?_⟩) (by assumption) ?_
  rotate_left 1
  · (intro w hSw; first | (go_simp; done) | (go_simp; with_reducible rfl))
  try simp only [Act.put, List.setIfInBounds_toArray, List.set_cons_zero, List.set_cons_succ]
  refine wpAnyH_takeD (i := 5) (d := some 14) rfl rfl (by kernel_rfl) (by kernel_rfl) (by kernel_rfl) (fun _ _ _ h => h) (yieldsIf_load_mid (by rfl) 41 (.tmp 13) rfl (w.heap.size) 14 rfl [.bool ma, .bool mb, .bool mc, .bool md] _ (fun w hSw => Blk.range (hSw.1) 14 (n := ([.bool ma, .bool mb, .bool mc, .bool md] : List Value).length) rfl) Try.underlying41 rfl sz_impl_Modem) (by assumption) ?_
  try simp only [Act.put, List.setIfInBounds_toArray, List.set_cons_zero, List.set_cons_succ]
  refine wpAnyH_takeD (i := 7) (v := ?_) (d := some 16) rfl rfl (by kernel_rfl) (by kernel_rfl) (by kernel_rfl) (fun _ _ _ h => h) (Or.inl ⟨by rfl, ?_⟩) (by assumption) ?_
  rotate_left 1
  · (intro w hSw; first | (go_simp; done) | (go_simp; with_reducible rfl))
  try simp only [Act.put, List.setIfInBounds_toArray, List.set_cons_zero, List.set_cons_succ]
  refine wpAnyH_takeD (i := 8) (v := ?_) (d := some 17) rfl rfl (by kernel_rfl) (by kernel_rfl) (by kernel_rfl) (fun _ _ _ h => h) (Or.inl ⟨by rfl, ?_⟩) (by assumption) ?_
  rotate_left 1
  · (intro w hSw; have hc := hSw.1.cellv 3 rfl; first | (go_simp; done) | (go_simp; with_reducible rfl))
  try simp only [Act.put, List.setIfInBounds_toArray, List.set_cons_zero, List.set_cons_succ]
  refine wpAnyH_ready (rs := [1]) (by kernel_rfl) (by simp) ?_
  refine AllReadyH.cons rfl (fun K hK => ?_) AllReadyH.nil
  go_simp
  (with_reducible refine (C1.out _ (hg3.below (by repeat (first | (with_reducible exact b_refl _) | (with_reducible refine b_alloc ?_ _) | (with_reducible refine b_drew ?_) | (with_reducible refine b_drewN ?_ _) | (with_reducible refine b_set ?_ ?_ _) | (with_reducible refine b_trans ?_ (by assumption)) | (with_reducible refine b_only ?_ (by assumption) ?_) | omega | (focus (simp; done)) | (focus (simp; omega))))) (hx3.below (by repeat (first | (with_reducible exact b_refl _) | (with_reducible refine b_alloc ?_ _) | (with_reducible refine b_drew ?_) | (with_reducible refine b_drewN ?_ _) | (with_reducible refine b_set ?_ ?_ _) | (with_reducible refine b_trans ?_ (by assumption)) | (with_reducible refine b_only ?_ (by assumption) ?_) | omega | (focus (simp; done)) | (focus (simp; omega)))))).mono ?_); rintro e w11 ⟨rfl, hb11⟩
  have G110 := (Blk.drew F3).below hb11 (Blk.drew F3).lt
  have G111 := (Blk.drew E3).below hb11 (Blk.drew E3).lt
  go_wp2
  refine hK.out _ _ ⟨G110, G111⟩ (fun hHeld11 => ?_)
  clear hK K
  try simp only [Act.put, List.setIfInBounds_toArray, List.set_cons_zero, List.set_cons_succ]
  refine wpAnyH_ready (rs := [3]) (by kernel_rfl) (by simp) ?_
  refine AllReadyH.cons rfl (fun K hK => ?_) AllReadyH.nil
  go_simp
  (with_reducible refine (C2.out _ (hg3.below (by repeat (first | (with_reducible exact b_refl _) | (with_reducible refine b_alloc ?_ _) | (with_reducible refine b_drew ?_) | (with_reducible refine b_drewN ?_ _) | (with_reducible refine b_set ?_ ?_ _) | (with_reducible refine b_trans ?_ (by assumption)) | (with_reducible refine b_only ?_ (by assumption) ?_) | omega | (focus (simp; done)) | (focus (simp; omega))))) (hx3.below (by repeat (first | (with_reducible exact b_refl _) | (with_reducible refine b_alloc ?_ _) | (with_reducible refine b_drew ?_) | (with_reducible refine b_drewN ?_ _) | (with_reducible refine b_set ?_ ?_ _) | (with_reducible refine b_trans ?_ (by assumption)) | (with_reducible refine b_only ?_ (by assumption) ?_) | omega | (focus (simp; done)) | (focus (simp; omega)))))).mono ?_); rintro e w12 ⟨rfl, hb12⟩
  have G120 := (G110).below hb12 (G110).lt
  have G121 := (G111).below hb12 (G111).lt
  go_wp2
  refine hK.out _ _ ⟨G120, G121⟩ (fun hHeld12 => ?_)
  clear hK K
  try simp only [Act.put, List.setIfInBounds_toArray, List.set_cons_zero, List.set_cons_succ]
  refine wpAnyH_ready (rs := [6]) (by kernel_rfl) (by simp) ?_
  refine AllReadyH.cons rfl (fun K hK => ?_) AllReadyH.nil
  go_simp
  (with_reducible refine (C3.out _).mono ?_); rintro e w13 ⟨rfl, hb13⟩
  have G130 := (G120).below hb13 (G120).lt
  have G131 := (G121).below hb13 (G121).lt
  go_wp2
  refine hK.out _ _ ⟨G130, G131⟩ (fun hHeld13 => ?_)
  clear hK K
  try simp only [Act.put, List.setIfInBounds_toArray, List.set_cons_zero, List.set_cons_succ]
  refine wpAnyH_ready (rs := [9]) (by kernel_rfl) (by simp) ?_
  refine AllReadyH.cons rfl (fun K hK => ?_) AllReadyH.nil
  go_simp
  (with_reducible refine (C4.out _ _ _).mono ?_); rintro e w14 ⟨rfl, hb14⟩
  have G140 := (G130).below hb14 (G130).lt
  have G141 := (G131).below hb14 (G131).lt
  go_wp2
  refine hK.out _ _ ⟨G140, G141⟩ (fun hHeld14 => ?_)
  clear hK K
  try simp only [Act.put, List.setIfInBounds_toArray, List.set_cons_zero, List.set_cons_succ]
  refine wpAnyH_takeD (i := 10) (v := ?_) (d := some 2) rfl rfl (by kernel_rfl) (by kernel_rfl) (by kernel_rfl) (fun _ _ _ h => h) (Or.inl ⟨by rfl, ?_⟩) (by assumption) ?_
  rotate_left 1
  · (intro w hSw; first | (go_simp; done) | (go_simp; with_reducible rfl))
  try simp only [Act.put, List.setIfInBounds_toArray, List.set_cons_zero, List.set_cons_succ]
  refine wpAnyH_done (by kernel_rfl) ?_ _
  go_wp2
  go_ret
  exact ⟨rfl, (by repeat (first | (with_reducible exact b_refl _) | (with_reducible refine b_alloc ?_ _) | (with_reducible refine b_drew ?_) | (with_reducible refine b_drewN ?_ _) | (with_reducible refine b_set ?_ ?_ _) | (with_reducible refine b_trans ?_ (by assumption)) | (with_reducible refine b_only ?_ (by assumption) ?_) | omega | (focus (simp; done)) | (focus (simp; omega))))⟩
end Go.Proofs.Ytflimlalccmdnaa

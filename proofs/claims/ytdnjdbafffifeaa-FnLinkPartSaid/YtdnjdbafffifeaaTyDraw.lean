/-
  THE DRAW OF A FRESH DRIVER (l92Fresh), its shape: a driver whose lists lie in blocks of their own; besides, the reader alone has moved.
-/
import Derived.Test.YtdnjdbafffifeaaTyFns
import Derived.Test.YtdnjdbafffifeaaReadU
set_option linter.unusedVariables false
set_option linter.unusedSimpArgs false
namespace Go.Proofs.Ytdnjdbafffifeaa
open Go.ChangeShapes Go.WideShapes Go.ChangeAt Go.RowKit

section
variable {H H1 H2 : Hp} {w w1 w2 : World} {rb : Nat}
abbrev FrR (rb : Nat) (H : Hp) (w : World) (H' : Hp) (w' : World) : Prop := FrX (fun g => g = rb) H w H' w'
theorem HW.only (hW : HW H w) {g : Nat} (ho : w.grownBy w1 (some g)) (hn : H g = none) : HW H w1 := fun x t m e => by
  obtain ⟨cs, h1, h2⟩ := hW x t m e
  exact ⟨cs, (ho.block x (hW.lt e) (fun e2 => by injection e2 with e2; subst e2; rw [hn] at e; cases e)).trans h1, h2⟩
theorem FrR.refl (rb : Nat) (H : Hp) (w : World) : FrR rb H w H w := ⟨rfl, rfl, rfl, Nat.le_refl _, Hp.Le.refl H, fun g x h e => (by rw [h] at e; cases e), fun _ _ _ _ => rfl⟩
theorem FrR.only (h : FrR rb H w H1 w1) (ho : w1.grownBy w2 (some rb)) : FrR rb H w H1 w2 :=
  ⟨ho.os.trans h.os, ho.tape.trans h.tape, ho.output.trans h.output, Nat.le_trans h.size ho.size, h.le, h.new, fun g hg e hX => (ho.block g (Nat.lt_of_lt_of_le hg h.size) (fun e2 => hX (by injection e2))).trans (h.old g hg e hX)⟩
/-- Only a block that was made since, and what is new, has turned. -/
theorem FrR.mine (h : FrR rb H w H1 w1) {g0 : Nat} (ho : w1.grownBy w2 (some g0)) (hg : w.heap.size ≤ g0) : FrR rb H w H1 w2 :=
  ⟨ho.os.trans h.os, ho.tape.trans h.tape, ho.output.trans h.output, Nat.le_trans h.size ho.size, h.le, h.new, fun g hg1 e hX => (ho.block g (Nat.lt_of_lt_of_le hg1 h.size) (fun e2 => by injection e2 with e2; omega)).trans (h.old g hg1 e hX)⟩
theorem FrR.alloc (h : FrR rb H w H1 w1) (o : Obj) : FrR rb H w H1 (w1.alloc o) :=
  ⟨h.os, h.tape, h.output, Nat.le_trans h.size (by simp), h.le, h.new, fun g hg e hX => (Below.heap_alloc w1 o g (Nat.lt_of_lt_of_le hg h.size)).trans (h.old g hg e hX)⟩
theorem RdU.fr {b : Nat} (h : RdU w rb b) (f : Fr H w H1 w1) (hH : ∀ g, g ≤ rb → H g = none) : RdU w1 rb b := by
  obtain ⟨q, hq, hb⟩ := h
  exact ⟨q, hq.below (f.below (B := rb + 1) hq.lt (fun g hg => hH g (by omega))) (Nat.lt_succ_self rb), hb⟩
theorem Blk.fr {g : Nat} {t : TypeId} {cs : Array Value} (h : Blk w g t cs) (f : Fr H w H1 w1) (hn : H g = none) : Blk w1 g t cs := (f.old g h.lt hn (fun x => x)).trans h
theorem Fr.low (f : Fr H w H1 w1) (hlt : rb < w.heap.size) (hH : ∀ g, g ≤ rb → H g = none) : ∀ g, g ≤ rb → H1 g = none := fun g hg => f.none_ (hH g hg) (by omega)
theorem Con.use {f : FuncId} {ts : List (List Cel × Bool)} {τ : Ty} (c : Con f ts τ) {vs : List Value} (hW : HW H w) (h : TsOk H ts vs) : Calls Try.prog f vs.toArray w fun e w' => ∃ v H', e = .returned v ∧ TOk H' id τ v ∧ HW H' w' ∧ Fr H w H' w' := c.2 H w vs hW h
end
/-! ### l92Fresh -/
theorem wpList_appT {ops : Array Oper} {rest : List Oper} {o : Oper} {a : Act} {Q : Exit → Act → World → Prop} {w : World} {H : Hp} {got own : Bool} {lo hi lo' hi' : Nat} {v1 v2 : Value} (hb : hi + hi' ≤ 1000000) (h1 : COk H (.cl got true lo hi) v1) (h2 : COk H (.cl got own lo' hi') v2) (hW : HW H w)
    (hgd : o.guard = none) (s x : Operand) (ho : o.op = .call { callee := .builtin .append, args := #[s, x], argTypes := #[slt got, slt got] }) (hs : a.eval s = v1) (hx : a.eval x = v2)
    (h : ∀ v H' w', COk H' (.cl got true (lo + lo') (hi + hi')) v → HW H' w' → Fr H w H' w' → wpList Try.prog ops Q rest (a.put o.dst v) w') : wpList Try.prog ops Q (o :: rest) a w :=
  wpList_plain hgd fun _ hK => by
    obtain ⟨v, H', w', hrun, k1, k2, k3⟩ := run_appT o.type hb h1 h2 hW
    unfold Oper.wp execOp
    simp only [ho, resolve, invoke, builtin, Sem.run_bind, Sem.run_pure, Result.andThen_ok, List.map_toArray, List.map_cons, List.map_nil, hs, hx, hrun]
    exact hK _ _ (h v H' w' k1 k2 k3)
/-- A list of one int, just made. -/
theorem lit1_ok {H : Hp} {w : World} (hW : HW H w) (x : Int) : ∃ H' : Hp, COk H' (sC 1 1) (.slice (some ⟨w.heap.size, 0, none⟩) 1 1) ∧ HW H' (w.alloc (.cells #[.int .i64 x] 3)) ∧ Fr H w H' (w.alloc (.cells #[.int .i64 x] 3)) :=
  ⟨H.add w.heap.size 3 1, ⟨_, 1, 1, rfl, Nat.le_refl _, Nat.le_refl _, Nat.le_refl _, by unfold maxLen; omega, .inl ⟨rfl, .inr ⟨_, rfl, Hp.add_same _ _ _ _⟩⟩⟩, (hW.alloc _).add (cs := [.int .i64 x]) (Blk.new w _ _) rfl (fun v hv => ⟨x, List.mem_singleton.1 hv⟩), fr_new hW (fun k hk => Below.heap_alloc w _ k hk) (by simp) rfl rfl rfl rfl⟩
theorem lit0_ok {H : Hp} {w : World} (hW : HW H w) : ∃ H' : Hp, COk H' (sC 0 0) (.slice (some ⟨w.heap.size, 0, none⟩) 0 0) ∧ HW H' (w.alloc (.cells #[] 3)) ∧ Fr H w H' (w.alloc (.cells #[] 3)) :=
  ⟨H.add w.heap.size 3 0, ⟨_, 0, 0, rfl, Nat.le_refl _, Nat.le_refl _, Nat.le_refl _, by unfold maxLen; omega, .inl ⟨rfl, .inr ⟨_, rfl, Hp.add_same _ _ _ _⟩⟩⟩, (hW.alloc _).add (cs := []) (Blk.new w _ _) rfl (fun v hv => by cases hv), fr_new hW (fun k hk => Below.heap_alloc w _ k hk) (by simp) rfl rfl rfl rfl⟩
def FreshD (rb q : Nat) (H : Hp) (w : World) (e : Ending) (w' : World) : Prop := ∃ (vs : List Value) (H' : Hp), e = .returned (.agg vs.toArray) ∧ CsOk H' drvC vs ∧ HW H' w' ∧ RdU w' rb q ∧ FrR rb H w H' w'
/-- What holds in the loop behind k bytes drawn. -/
structure LoopF (rb p gR gT : Nat) (q : List Value) (H : Hp) (w : World) (k : Nat) (Hk : Hp) (v : Value) (wr : World) : Prop where
  lst : COk Hk (sC 0 k) v
  drv : CsOk Hk (driverC 0 32 0 0) q
  hw : HW Hk wr
  rd : RdU wr rb (p + 3 + k)
  fr : FrR rb H w Hk wr
  nR : Hk gR = none
  nT : Hk gT = none
  R : Blk wr gR 49 #[.int .i64 0, .int .i64 0, .int .i64 0, .int .i64 0, .int .i64 0, .int .i64 0, .int .i64 0, .slice none 0 0, .bool false, .int .i64 0, .int .i64 0, .slice none 0 0, .int .i64 0, .int .i64 0, .bool false, .bool false, .bool false, .bool false, .slice none 0 0, .slice none 0 0, .int .i64 0, .int .i64 0]
  T : Blk wr gT 49 q.toArray
set_option maxHeartbeats 4000000 in
theorem l92Fresh_t (rb p : Nat) (H : Hp) (w : World) (h : RdU w rb p) (hp : p ≤ 3000000) (hW : HW H w) (hH : ∀ g, g ≤ rb → H g = none) :
    Calls Try.prog 33 #[.pointer (some ⟨rb, 0, none⟩)] w (FreshD rb (p + 16) H w) := by
  have hlt := h.lt
  have HN := Lib.hid hW.new_none
  have HH := Lib.hid hH
  go_enter Try.func33, Try.ntmps33
  go_wp2_with fail
  (with_reducible refine (pick_U rb (p) 6 _ ?_ (by omega) (by omega)).mono ?_); (exact (by repeat (first | (with_reducible refine RdU.up (by assumption) (by omega)) | (with_reducible refine Rd.up (by assumption) (by omega)) | (with_reducible refine RdU.up (RdB.u (by assumption)) (by omega)) | (with_reducible refine RdU.drew ?_) | (with_reducible refine RdU.drewN ?_ _) | (with_reducible refine RdU.alloc ?_ _) | (with_reducible refine RdU.setCell ?_ ?_ _) | (with_reducible refine RdU.below ?_ (by assumption)) | omega | (focus (simp; done)) | (focus (simp; omega))))); rintro e w1 ⟨v1, rfl, hv1, hu1, hr1, ho1⟩; have hz1 := ho1.size; (try simp at hz1); have R1 := (Blk.new w _ _).grown ho1 (by first | omega | (simp; done) | (simp; omega)); (try simp only [World.size_alloc, List.setIfInBounds_toArray, List.set_cons_zero, List.set_cons_succ] at R1); have R1l := R1.lt; (try simp only [World.size_alloc] at R1l)
  have hv1' : 1 ≤ 1 + v1 := by omega
  go_wp2_with fail
  (with_reducible refine (pick_U rb (p + 1) (1 + v1) _ ?_ (by omega) (by omega)).mono ?_); (exact (by repeat (first | (with_reducible refine RdU.up (by assumption) (by omega)) | (with_reducible refine Rd.up (by assumption) (by omega)) | (with_reducible refine RdU.up (RdB.u (by assumption)) (by omega)) | (with_reducible refine RdU.drew ?_) | (with_reducible refine RdU.drewN ?_ _) | (with_reducible refine RdU.alloc ?_ _) | (with_reducible refine RdU.setCell ?_ ?_ _) | (with_reducible refine RdU.below ?_ (by assumption)) | omega | (focus (simp; done)) | (focus (simp; omega))))); rintro e w2 ⟨v2, rfl, hv2, hu2, hr2, ho2⟩; have hz2 := ho2.size; (try simp at hz2); have R2 := Blk.liftO R1 ho2 (by repeat (first | (with_reducible exact R1) | (with_reducible refine Blk.drew ?_) | (with_reducible refine Blk.drewN ?_ _) | (with_reducible refine Blk.alloc ?_ _) | (with_reducible refine Blk.far ?_ ?_ _) | omega | (focus (simp; done)) | (focus (simp; omega)))) (by first | omega | (simp; done) | (simp; omega)); (try simp only [World.size_alloc, List.setIfInBounds_toArray, List.set_cons_zero, List.set_cons_succ] at R2); have R2l := R2.lt; (try simp only [World.size_alloc] at R2l)
  have hW2 : HW H w2 := ((hW.alloc _).only ho1 (HH.out rb (Nat.le_refl _))).only ho2 (HH.out rb (Nat.le_refl _))
  have fr2 : FrR rb H w H w2 := (((FrR.refl rb H w).alloc _).only ho1).only ho2
  have hlt2 := hr2.lt
  go_wp2_with fail
  refine (con_DriverNew.use hW2 (vs := [_, _]) ⟨⟨⟨_, rfl⟩, trivial⟩, ⟨⟨_, rfl⟩, trivial⟩, trivial⟩).mono ?_
  rintro e w3 ⟨v, H3, rfl, ⟨us, rfl, hu⟩, hW3, f3⟩
  obtain ⟨_, _, rfl, ⟨q, rfl, hq⟩, ⟨⟨ok, rfl⟩, _⟩⟩ := ts2 hu
  have R3 := R2.fr f3 HN.out
  have hr3 := hr2.fr f3 HH.out
  have fr3 : FrR rb H w H3 w3 := FrX.trans fr2 f3
  have HR3 := Lib.hid (f3.none_ HN.out R2.lt)
  have lq := Lib.hid (show q.length = 22 from hq.len)
  have oq := Lib.hid (show q.all (·.oneCell') = true from List.all_eq_true.2 fun v hv => CsOk.one hq v hv)
  have z3 := f3.size
  have R3l := R3.lt
  have hltT := hr3.lt
  clear R1 R2 ho1 ho2 hr1 hr2 f3 fr2 hW2 hu
  go_wp2_with ((with_reducible refine at_store 49 (.tmp 4) (.tmp 21) rfl ?_); go_must (refine wpList_storeB (g := w3.heap.size) (t := 49) (cs := #[.int .i64 0, .int .i64 0, .int .i64 0, .int .i64 0, .int .i64 0, .int .i64 0, .int .i64 0, .slice none 0 0, .bool false, .int .i64 0, .int .i64 0, .slice none 0 0, .int .i64 0, .int .i64 0, .bool false, .bool false, .bool false, .bool false, .slice none 0 0, .slice none 0 0, .int .i64 0, .int .i64 0]) (by repeat (first | (with_reducible exact (Blk.new w3 _ _)) | (with_reducible refine Blk.drew ?_) | (with_reducible refine Blk.drewN ?_ _) | (with_reducible refine Blk.alloc ?_ _) | (with_reducible refine Blk.far ?_ ?_ _) | omega | (focus (simp; done)) | (focus (simp; omega)))) 49 (.tmp 4) (.tmp 21) rfl (by rfl) 0 rfl (q) rfl (sz_impl_Driver.trans (congrArg some (Eq.symm (lq.out)))) (oq.out) (by rw [lq.out]; simp) (q) (st_all (by rw [lq.out]; rfl)) ?_; intro w4 N4 ho4; have hz4 := ho4.size; (try simp at hz4); have R4 := Blk.liftO R3 ho4 (by repeat (first | (with_reducible exact R3) | (with_reducible refine Blk.drew ?_) | (with_reducible refine Blk.drewN ?_ _) | (with_reducible refine Blk.alloc ?_ _) | (with_reducible refine Blk.far ?_ ?_ _) | omega | (focus (simp; done)) | (focus (simp; omega)))) (by first | omega | (simp; done) | (simp; omega)); (try simp only [World.size_alloc, List.setIfInBounds_toArray, List.set_cons_zero, List.set_cons_succ] at R4); have R4l := R4.lt; (try simp only [World.size_alloc] at R4l); have T4 := N4; (try simp only [World.size_alloc, List.setIfInBounds_toArray, List.set_cons_zero, List.set_cons_succ] at T4); have T4l := T4.lt; (try simp only [World.size_alloc] at T4l)))
  have hW4 : HW H3 w4 := (hW3.alloc _).only ho4 hW3.new_none
  have fr4 : FrR rb H w H3 w4 := (fr3.alloc _).mine ho4 (by have := fr3.size; omega)
  have hr4 : RdU w4 rb (p + 1 + 1) := (hr3.alloc _).grown ho4 (fun k hk => by injection hk with hk; have := hr3.lt; omega)
  have HT4 := Lib.hid hW3.new_none
  obtain ⟨H5, c5, hW5, f5⟩ := lit0_ok hW4
  have R4l := R4.lt
  have T4l := T4.lt
  have T4l' : w3.heap.size < w4.heap.size := T4l
  have z4 : w3.heap.size < w4.heap.size := T4l
  (with_reducible refine (pick_U rb (p + 1 + 1) 12 _ (hr4.alloc _) (by omega) (by omega)).mono ?_); rintro e w5 ⟨v5, rfl, hv5, hu5, hr5, ho5⟩
  have fr5 : FrR rb H w H5 w5 := FrR.only (FrX.trans fr4 f5) ho5
  have LF : LoopF rb p w.heap.size w3.heap.size q H w 0 H5 (.slice (some ⟨w4.heap.size, 0, none⟩) 0 0) w5 :=
    ⟨c5, hq.up f5.le, hW5.only ho5 (fr5.none_ (HH.out rb (Nat.le_refl _)) hlt), hr5.up (by omega), fr5, f5.none_ HR3.out R4l, f5.none_ HT4.out T4l, (R4.alloc _).grown ho5 (fun e => by injection e with e; omega), (T4.alloc _).grown ho5 (fun e => by injection e with e; omega)⟩
  have LH := Lib.hid LF
  obtain ⟨N, rfl⟩ := Int.eq_ofNat_of_zero_le hv5
  have hN : N < 12 := by omega
  have LW := Lib.hid (show ∀ (Hk : Hp) (wr : World), FrR rb H w Hk wr → ∀ g, g ≤ rb → Hk g = none from fun Hk wr f g hg => f.none_ (HH.out g hg) (by omega))
  clear LF R3 R4 T4 N4 hr3 hr4 hr5 ho4 ho5 fr3 fr4 fr5 hW3 hW4 hW5 f5 HR3 HT4 hq c5
  generalize w3.heap.size = gT at *
  go_wp2
  go_loopw [6, 8] (fun v i wr => ∃ (k : Nat) (Hk : Hp), k ≤ N ∧ i = .int .i64 k ∧ LoopF rb p w.heap.size gT q H w k Hk v wr) (fun _ i _ => N - (intOf i).toNat)
  case atStart => exact ⟨0, H5, Nat.zero_le _, rfl, LH.out⟩
  case round =>
    obtain ⟨k, Hk, hk, rfl, L⟩ := hrel
    have LL := Lib.hid L
    clear L LH
    by_cases hlt2 : k < N
    · go_wp2_with fail
      (with_reducible refine (pick_U rb (p + 3 + k) 256 _ LL.out.rd (by omega) (by omega)).mono ?_); rintro e w6 ⟨v6, rfl, hv6, hu6, hr6, ho6⟩
      have hW6 : HW Hk w6 := LL.out.hw.only ho6 (LW.out _ _ LL.out.fr rb (Nat.le_refl _))
      obtain ⟨H7, c7, hW7, f7⟩ := lit1_ok hW6 v6
      have L7 := LL.out.lst.up f7.le
      go_wp2_with (at_builtin; refine at_app (.tmp 31) (.tmp 34) rfl ?_; go_must (refine wpList_appT (by omega) L7 c7 hW7 rfl (.tmp 31) (.tmp 34) rfl rfl rfl ?_; intro v8 H8 w8 c8 hW8 f8))
      go_roundw
      case rel =>
        have low6 := LW.out _ _ (LL.out.fr.only ho6)
        have hl6 : rb < w6.heap.size := hr6.lt
        have low7 := f7.low hl6 low6
        have R6 := LL.out.R.grown ho6 (fun e => by injection e with e; omega)
        have T6 := LL.out.T.grown ho6 (fun e => by injection e with e; omega)
        have nR7 := f7.none_ LL.out.nR R6.lt
        have nT7 := f7.none_ LL.out.nT T6.lt
        have R7 := R6.fr f7 LL.out.nR
        have T7 := T6.fr f7 LL.out.nT
        exact ⟨k + 1, H8, by omega, by go_num, ⟨c8.le (by simp [Cel.le, sC]), LL.out.drv.up (f7.le.trans f8.le), hW8, ((hr6.fr f7 low6).fr f8 low7).up (by omega), FrX.trans (FrX.trans (LL.out.fr.only ho6) f7) f8, f8.none_ nR7 R7.lt, f8.none_ nT7 T7.lt, R7.fr f8 nR7, T7.fr f8 nT7⟩⟩
      case measure => simp [intOf]; omega
    · obtain rfl : k = N := by omega
      have T9 := LL.out.T
      have T9l := T9.lt
      have low9 := LW.out _ _ LL.out.fr
      have L9 : Hid (∀ g, g ≤ rb → Hk g = none) := low9
      clear low9
      go_wp2_with ((with_reducible refine at_load 49 (.tmp 4) rfl ?_); go_must (refine wpList_loadB (by repeat (first | (with_reducible exact T9) | (with_reducible apply Blk.drew) | (with_reducible apply Blk.drewN) | (with_reducible apply Blk.alloc) | (with_reducible apply Blk.far) | omega | (focus (simp; done)) | (focus (simp; omega)))) 49 (.tmp 4) rfl (by rfl) 0 rfl (q) (sub_all _) Try.underlying49 rfl (sz_impl_Driver.trans (congrArg some (Eq.symm (lq.out)))) ?_))
      refine (con_DriverSend.use LL.out.hw (vs := [_, _]) ⟨⟨q, rfl, LL.out.drv⟩, ⟨LL.out.lst.le (by simp [Cel.le, sC]; omega), trivial⟩, trivial⟩).mono ?_
      rintro e w7 ⟨v, H7, rfl, ⟨us, rfl, hu⟩, hW7, f7⟩
      obtain ⟨_, _, rfl, ⟨u, rfl, hu7⟩, ⟨⟨ok2, rfl⟩, _⟩⟩ := ts2 hu
      have R7 := LL.out.R.fr f7 LL.out.nR
      have T7 := T9.fr f7 LL.out.nT
      have hr7 := LL.out.rd.fr f7 L9.out
      have fr7 : FrR rb H w H7 w7 := FrX.trans LL.out.fr f7
      have hq7 := Lib.hid ((LL.out.drv.up f7.le).le (show lesC (driverC 0 32 0 0) drvC = true by decide))
      have HR7 := Lib.hid (f7.none_ LL.out.nR LL.out.R.lt)
      have lu := Lib.hid (show u.length = 22 from hu7.len)
      have ou := Lib.hid (show u.all (·.oneCell') = true from List.all_eq_true.2 fun v hv => CsOk.one hu7 v hv)
      have hu7' := Lib.hid hu7
      have R7l := R7.lt
      have T7l := T7.lt
      have hrl := hr7.lt
      clear f7 hu T9 T9l LL hu7
      cases ok2
      · go_wp2_with (first | ((with_reducible refine at_store 49 (.tmp 9) (.tmp 40) rfl ?_); go_must (refine wpList_storeB (g := w7.heap.size) (t := 49) (cs := #[.int .i64 0, .int .i64 0, .int .i64 0, .int .i64 0, .int .i64 0, .int .i64 0, .int .i64 0, .slice none 0 0, .bool false, .int .i64 0, .int .i64 0, .slice none 0 0, .int .i64 0, .int .i64 0, .bool false, .bool false, .bool false, .bool false, .slice none 0 0, .slice none 0 0, .int .i64 0, .int .i64 0]) (by repeat (first | (with_reducible exact (Blk.new w7 _ _)) | (with_reducible refine Blk.drew ?_) | (with_reducible refine Blk.drewN ?_ _) | (with_reducible refine Blk.alloc ?_ _) | (with_reducible refine Blk.far ?_ ?_ _) | omega | (focus (simp; done)) | (focus (simp; omega)))) 49 (.tmp 9) (.tmp 40) rfl (by rfl) 0 rfl (u) rfl (sz_impl_Driver.trans (congrArg some (Eq.symm (lu.out)))) (ou.out) (by rw [lu.out]; simp) (u) (st_all (by rw [lu.out]; rfl)) ?_; intro w8 N8 ho8; have hz8 := ho8.size; (try simp at hz8); have R8 := Blk.liftO R7 ho8 (by repeat (first | (with_reducible exact R7) | (with_reducible refine Blk.drew ?_) | (with_reducible refine Blk.drewN ?_ _) | (with_reducible refine Blk.alloc ?_ _) | (with_reducible refine Blk.far ?_ ?_ _) | omega | (focus (simp; done)) | (focus (simp; omega)))) (by first | omega | (simp; done) | (simp; omega)); (try simp only [World.size_alloc, List.setIfInBounds_toArray, List.set_cons_zero, List.set_cons_succ] at R8); have R8l := R8.lt; (try simp only [World.size_alloc] at R8l); have T8 := Blk.liftO T7 ho8 (by repeat (first | (with_reducible exact T7) | (with_reducible refine Blk.drew ?_) | (with_reducible refine Blk.drewN ?_ _) | (with_reducible refine Blk.alloc ?_ _) | (with_reducible refine Blk.far ?_ ?_ _) | omega | (focus (simp; done)) | (focus (simp; omega)))) (by first | omega | (simp; done) | (simp; omega)); (try simp only [World.size_alloc, List.setIfInBounds_toArray, List.set_cons_zero, List.set_cons_succ] at T8); have T8l := T8.lt; (try simp only [World.size_alloc] at T8l); have U8 := N8; (try simp only [World.size_alloc, List.setIfInBounds_toArray, List.set_cons_zero, List.set_cons_succ] at U8); have U8l := U8.lt; (try simp only [World.size_alloc] at U8l))) | ((with_reducible refine at_load 49 (.tmp 4) rfl ?_); go_must (refine wpList_loadB (by repeat (first | (with_reducible exact T8) | (with_reducible apply Blk.drew) | (with_reducible apply Blk.drewN) | (with_reducible apply Blk.alloc) | (with_reducible apply Blk.far) | omega | (focus (simp; done)) | (focus (simp; omega)))) 49 (.tmp 4) rfl (by rfl) 0 rfl (q) (sub_all _) Try.underlying49 rfl (sz_impl_Driver.trans (congrArg some (Eq.symm (lq.out)))) ?_)) | ((with_reducible refine at_store 49 (.tmp 2) (.tmp 44) rfl ?_); go_must (refine wpList_storeB (Blk.now R8 (by repeat (first | (with_reducible exact R8) | (with_reducible refine Blk.drew ?_) | (with_reducible refine Blk.drewN ?_ _) | (with_reducible refine Blk.alloc ?_ _) | (with_reducible refine Blk.far ?_ ?_ _) | omega | (focus (simp; done)) | (focus (simp; omega))))) 49 (.tmp 2) (.tmp 44) rfl (by rfl) 0 rfl (q) rfl (sz_impl_Driver.trans (congrArg some (Eq.symm (lq.out)))) (oq.out) ((by rw [lq.out]; simp)) (q) (st_all (by rw [lq.out]; rfl)) ?_; intro w9 N9 ho9; have hz9 := ho9.size; (try simp at hz9))))
        have hW8 : HW H7 w8 := (hW7.alloc _).only ho8 hW7.new_none
        have fr8 : FrR rb H w H7 w8 := (fr7.alloc _).mine ho8 (by have := fr7.size; omega)
        have hr8 : RdU w8 rb (p + 3 + k) := (hr7.alloc _).grown ho8 (fun k hk => by injection hk with hk; omega)
        exact bodyPost_ret (results_blk rfl N9 _ rfl Try.underlying49 rfl (by rw [List.size_toArray, lq.out]; exact sz_impl_Driver)) rfl ⟨q, H7, rfl, hq7.out, hW8.only ho9 HR7.out, (hr8.grown ho9 (fun k hk => by injection hk with hk; omega)).up (by omega), fr8.mine ho9 (Nat.le_refl _)⟩
      · go_wp2_with (first | ((with_reducible refine at_store 49 (.tmp 9) (.tmp 40) rfl ?_); go_must (refine wpList_storeB (g := w7.heap.size) (t := 49) (cs := #[.int .i64 0, .int .i64 0, .int .i64 0, .int .i64 0, .int .i64 0, .int .i64 0, .int .i64 0, .slice none 0 0, .bool false, .int .i64 0, .int .i64 0, .slice none 0 0, .int .i64 0, .int .i64 0, .bool false, .bool false, .bool false, .bool false, .slice none 0 0, .slice none 0 0, .int .i64 0, .int .i64 0]) (by repeat (first | (with_reducible exact (Blk.new w7 _ _)) | (with_reducible refine Blk.drew ?_) | (with_reducible refine Blk.drewN ?_ _) | (with_reducible refine Blk.alloc ?_ _) | (with_reducible refine Blk.far ?_ ?_ _) | omega | (focus (simp; done)) | (focus (simp; omega)))) 49 (.tmp 9) (.tmp 40) rfl (by rfl) 0 rfl (u) rfl (sz_impl_Driver.trans (congrArg some (Eq.symm (lu.out)))) (ou.out) (by rw [lu.out]; simp) (u) (st_all (by rw [lu.out]; rfl)) ?_; intro w8 N8 ho8; have hz8 := ho8.size; (try simp at hz8); have R8 := Blk.liftO R7 ho8 (by repeat (first | (with_reducible exact R7) | (with_reducible refine Blk.drew ?_) | (with_reducible refine Blk.drewN ?_ _) | (with_reducible refine Blk.alloc ?_ _) | (with_reducible refine Blk.far ?_ ?_ _) | omega | (focus (simp; done)) | (focus (simp; omega)))) (by first | omega | (simp; done) | (simp; omega)); (try simp only [World.size_alloc, List.setIfInBounds_toArray, List.set_cons_zero, List.set_cons_succ] at R8); have R8l := R8.lt; (try simp only [World.size_alloc] at R8l); have T8 := Blk.liftO T7 ho8 (by repeat (first | (with_reducible exact T7) | (with_reducible refine Blk.drew ?_) | (with_reducible refine Blk.drewN ?_ _) | (with_reducible refine Blk.alloc ?_ _) | (with_reducible refine Blk.far ?_ ?_ _) | omega | (focus (simp; done)) | (focus (simp; omega)))) (by first | omega | (simp; done) | (simp; omega)); (try simp only [World.size_alloc, List.setIfInBounds_toArray, List.set_cons_zero, List.set_cons_succ] at T8); have T8l := T8.lt; (try simp only [World.size_alloc] at T8l); have U8 := N8; (try simp only [World.size_alloc, List.setIfInBounds_toArray, List.set_cons_zero, List.set_cons_succ] at U8); have U8l := U8.lt; (try simp only [World.size_alloc] at U8l))) | ((with_reducible refine at_load 49 (.tmp 9) rfl ?_); go_must (refine wpList_loadB (by repeat (first | (with_reducible exact U8) | (with_reducible apply Blk.drew) | (with_reducible apply Blk.drewN) | (with_reducible apply Blk.alloc) | (with_reducible apply Blk.far) | omega | (focus (simp; done)) | (focus (simp; omega)))) 49 (.tmp 9) rfl (by rfl) 0 rfl (u) (sub_all _) Try.underlying49 rfl (sz_impl_Driver.trans (congrArg some (Eq.symm (lu.out)))) ?_)) | ((with_reducible refine at_store 49 (.tmp 2) (.tmp 45) rfl ?_); go_must (refine wpList_storeB (Blk.now R8 (by repeat (first | (with_reducible exact R8) | (with_reducible refine Blk.drew ?_) | (with_reducible refine Blk.drewN ?_ _) | (with_reducible refine Blk.alloc ?_ _) | (with_reducible refine Blk.far ?_ ?_ _) | omega | (focus (simp; done)) | (focus (simp; omega))))) 49 (.tmp 2) (.tmp 45) rfl (by rfl) 0 rfl (u) rfl (sz_impl_Driver.trans (congrArg some (Eq.symm (lu.out)))) (ou.out) ((by rw [lu.out]; simp)) (u) (st_all (by rw [lu.out]; rfl)) ?_; intro w9 N9 ho9; have hz9 := ho9.size; (try simp at hz9))))
        have hW8 : HW H7 w8 := (hW7.alloc _).only ho8 hW7.new_none
        have fr8 : FrR rb H w H7 w8 := (fr7.alloc _).mine ho8 (by have := fr7.size; omega)
        have hr8 : RdU w8 rb (p + 3 + k) := (hr7.alloc _).grown ho8 (fun k hk => by injection hk with hk; omega)
        exact bodyPost_ret (results_blk rfl N9 _ rfl Try.underlying49 rfl (by rw [List.size_toArray, lu.out]; exact sz_impl_Driver)) rfl ⟨u, H7, rfl, hu7'.out, hW8.only ho9 HR7.out, (hr8.grown ho9 (fun k hk => by injection hk with hk; omega)).up (by omega), fr8.mine ho9 (Nat.le_refl _)⟩
end Go.Proofs.Ytdnjdbafffifeaa

/-
  MARKS IN A LINK'S ROWS, which may lie one over the other: markReceiver .. markLink return the next mark; only blocks from 'base' to 'top' have turned. Condition: at most 2^20 elements each.
-/
import Derived.Test.YtdnjdbafffifeaaMarkAny
import Derived.Test.YtdnjdbafffifeaaLink
set_option linter.unusedVariables false
set_option linter.unusedSimpArgs false
namespace Go.Proofs.Ytdnjdbafffifeaa
open Go.ChangeShapes Go.WideShapes Go.ChangeAt Go.RowKit

theorem Turn.alloc {base top : Nat} {a b : World} (h : Turn base top a b) (o : Obj) : Turn base top a (b.alloc o) := h.below (b_alloc (b_refl _) _)
theorem Blk.turn {base top g : Nat} {w w' : World} {t : TypeId} {cs : Array Value} (h : Blk w g t cs) (k : Turn base top w w') (hg : top ≤ g) : Blk w' g t cs := (k.block g h.lt (.inr hg)).trans h
def PortMk (w : World) (base top : Nat) (vs : List Value) (N : Nat) : Prop := ∃ (b p s en ct rr rt ra sr sh sl : Int) (rl ma mb mc md : Bool) (RA SA : Option Addr) (rn sn rc sc : Nat),
  vs = [.int .i64 b, .int .i64 p, .int .i64 s, .int .i64 en, .int .i64 ct, .int .i64 rr, .int .i64 rt, .slice RA rn rc, .bool rl, .int .i64 ra, .int .i64 sr, .slice SA sn sc, .int .i64 sh, .int .i64 sl, .bool ma, .bool mb, .bool mc, .bool md] ∧ RowIn w base top 2 RA rn ∧ RowIn w base top 1 SA sn ∧ rn ≤ 1048576 ∧ sn ≤ 1048576 ∧ N = 2 * rn + sn
def DriverMk (w : World) (base top : Nat) (cs : List Value) (N : Nat) : Prop := ∃ (vp : List Value) (IA OA : Option Addr) (ni ci no co M : Nat) (wr lo : Int),
  cs = vp ++ [.slice IA ni ci, .slice OA no co, .int .i64 wr, .int .i64 lo] ∧ PortMk w base top vp M ∧ RowIn w base top 1 IA ni ∧ RowIn w base top 1 OA no ∧ ni ≤ 1048576 ∧ no ≤ 1048576 ∧ N = M + ni + no
def LinkMk (w : World) (base top : Nat) (cs : List Value) (N : Nat) : Prop := ∃ (va vb : List Value) (M M2 : Nat), cs = va ++ vb ∧ va.length = 22 ∧ vb.length = 22 ∧ DriverMk w base top va M ∧ DriverMk w base top vb M2 ∧ N = M + M2
section
variable {base top N : Nat} {w w' : World} {cs : List Value}
theorem PortMk.turn (h : PortMk w base top cs N) (k : Turn base top w w') : PortMk w' base top cs N := by
  obtain ⟨b, p, s, en, ct, rr, rt, ra, sr, sh, sl, rl, ma, mb, mc, md, RA, SA, rn, sn, rc, sc, e, h1, h2, h3⟩ := h
  exact ⟨b, p, s, en, ct, rr, rt, ra, sr, sh, sl, rl, ma, mb, mc, md, RA, SA, rn, sn, rc, sc, e, h1.turn k, h2.turn k, h3⟩
theorem DriverMk.turn (h : DriverMk w base top cs N) (k : Turn base top w w') : DriverMk w' base top cs N := by
  obtain ⟨vp, IA, OA, ni, ci, no, co, M, wr, lo, e, h1, h2, h3, h4⟩ := h
  exact ⟨vp, IA, OA, ni, ci, no, co, M, wr, lo, e, h1.turn k, h2.turn k, h3.turn k, h4⟩
theorem PortMk.len (h : PortMk w base top cs N) : cs.length = 18 := by
  obtain ⟨b, p, s, en, ct, rr, rt, ra, sr, sh, sl, rl, ma, mb, mc, md, RA, SA, rn, sn, rc, sc, rfl, _⟩ := h
  rfl
theorem PortMk.of_own {d : PortD} (h : PortOwn w base cs d) (hs : d.small) (ht : w.heap.size ≤ top) : ∃ N, PortMk w base top cs N ∧ N ≤ 3145728 := by
  obtain ⟨b, p, s, en, ct, rr, rt, ra, sr, sh, sl, rl, ma, mb, mc, md, gs, xs⟩ := d
  obtain ⟨RA, SA, rn, sn, rc, sc, rfl, hg, hx⟩ := h
  have h1 := (Gots.of_own hg).len
  have h2 := (Ints.of_own hx).len
  obtain ⟨s1, s2⟩ := hs
  simp only at s1 s2
  exact ⟨2 * rn + sn, ⟨b, p, s, en, ct, rr, rt, ra, sr, sh, sl, rl, ma, mb, mc, md, RA, SA, rn, sn, rc, sc, rfl, RowIn.of_own hg ht, RowIn.of_own hx ht, by omega, by omega, rfl⟩, by omega⟩
theorem DriverMk.of_own {d : DriverD} (h : DriverOwn w base cs d) (hs : d.small) (ht : w.heap.size ≤ top) : ∃ N, DriverMk w base top cs N ∧ N ≤ 5242880 := by
  obtain ⟨vp, IA, OA, ni, ci, no, co, rfl, hp, hi, ho⟩ := h
  obtain ⟨s1, s2, s3⟩ := hs
  obtain ⟨M, hM, hM2⟩ := PortMk.of_own hp s1 ht
  have h1 := (Ints.of_own hi).len
  have h2 := (Ints.of_own ho).len
  exact ⟨M + ni + no, ⟨vp, IA, OA, ni, ci, no, co, M, _, _, rfl, hM, RowIn.of_own hi ht, RowIn.of_own ho ht, by omega, by omega, rfl⟩, by omega⟩
theorem LinkMk.of_own {d : LinkD} (h : LinkOwn w base cs d) (hs : d.small) (ht : w.heap.size ≤ top) : ∃ N, LinkMk w base top cs N ∧ N ≤ 10485760 := by
  obtain ⟨va, vb, rfl, ha, hb⟩ := h
  obtain ⟨M, h1, h2⟩ := DriverMk.of_own ha hs.1 ht
  obtain ⟨M2, h3, h4⟩ := DriverMk.of_own hb hs.2 ht
  exact ⟨M + M2, ⟨va, vb, M, M2, rfl, ha.len, hb.len, h1, h3, rfl⟩, by omega⟩
end
theorem markReceiver_turn (base top : Nat) (rr rt ra : Int) (rl : Bool) (RA : Option Addr) (rn rc : Nat) (q : Int) (w : World) (h : RowIn w base top 2 RA rn) (hn : rn ≤ 1048576) (ht : top ≤ w.heap.size) (hq0 : 0 ≤ q) (hq1 : q ≤ 1099511627776) :
    Calls Try.prog 51 #[.agg #[.int .i64 rr, .int .i64 rt, .slice RA rn rc, .bool rl, .int .i64 ra], .int .i64 q] w fun e w' => e = .returned (.int .i64 (q + 2 * rn)) ∧ Turn base top w w' := by
  go_enter Try.func51, Try.ntmps51
  go_wp2_with fail
  (with_reducible refine (markGotS_turn base top _ _ _ _ _ (h.turn (by repeat (first | (with_reducible exact Turn.refl _ _ _) | (with_reducible refine Turn.alloc ?_ _) | (with_reducible refine Turn.trans ?_ (by assumption))))) hn hq0 hq1).mono ?_); rintro e w1 ⟨rfl, ht1⟩
  go_wp2
  go_ret
  exact ⟨rfl, (by repeat (first | (with_reducible exact Turn.refl _ _ _) | (with_reducible refine Turn.alloc ?_ _) | (with_reducible refine Turn.trans ?_ (by assumption))))⟩
theorem markSender_turn (base top : Nat) (sr sh sl : Int) (SA : Option Addr) (sn sc : Nat) (q : Int) (w : World) (h : RowIn w base top 1 SA sn) (hn : sn ≤ 1048576) (ht : top ≤ w.heap.size) (hq0 : 0 ≤ q) (hq1 : q ≤ 1099511627776) :
    Calls Try.prog 52 #[.agg #[.int .i64 sr, .slice SA sn sc, .int .i64 sh, .int .i64 sl], .int .i64 q] w fun e w' => e = .returned (.int .i64 (q + sn)) ∧ Turn base top w w' := by
  go_enter Try.func52, Try.ntmps52
  go_wp2_with fail
  (with_reducible refine (markIntS_turn base top _ _ _ _ _ (h.turn (by repeat (first | (with_reducible exact Turn.refl _ _ _) | (with_reducible refine Turn.alloc ?_ _) | (with_reducible refine Turn.trans ?_ (by assumption))))) (by omega) hq0 hq1).mono ?_); rintro e w1 ⟨rfl, ht1⟩
  go_wp2
  go_ret
  exact ⟨rfl, (by repeat (first | (with_reducible exact Turn.refl _ _ _) | (with_reducible refine Turn.alloc ?_ _) | (with_reducible refine Turn.trans ?_ (by assumption))))⟩
set_option maxHeartbeats 2000000 in
theorem markPort_turn (base top : Nat) (vs : List Value) (N : Nat) (q : Int) (w : World) (h : PortMk w base top vs N) (ht : top ≤ w.heap.size) (hq0 : 0 ≤ q) (hq1 : q + N ≤ 1099511627776) :
    Calls Try.prog 30 #[.agg vs.toArray, .int .i64 q] w fun e w' => e = .returned (.int .i64 (q + N)) ∧ Turn base top w w' := by
  obtain ⟨b, p, s, en, ct, rr, rt, ra, sr, sh, sl, rl, ma, mb, mc, md, RA, SA, rn, sn, rc, sc, rfl, hr, hx, h1, h2, hN⟩ := h
  go_enter Try.func30, Try.ntmps30
  go_wp2_with (first | (refine at_load 43 (.tmp 5) rfl ?_; go_must (refine wpList_loadB (Blk.now (Blk.new w _ _) (by repeat (first | (with_reducible exact (Blk.new w _ _)) | (with_reducible refine Blk.drew ?_) | (with_reducible refine Blk.drewN ?_ _) | (with_reducible refine Blk.alloc ?_ _) | (with_reducible refine Blk.far ?_ ?_ _) | omega | (focus (simp; done)) | (focus (simp; omega))))) 43 (.tmp 5) rfl (by rfl) 5 rfl [.int .i64 rr, .int .i64 rt, .slice RA rn rc, .bool rl, .int .i64 ra] rfl Try.underlying43 rfl sz_impl_Receiver ?_)) | (go_at_call 51; go_must ((with_reducible refine (markReceiver_turn base top _ _ _ _ _ _ _ _ _ (hr.turn (by repeat (first | (with_reducible exact Turn.refl _ _ _) | (with_reducible refine Turn.alloc ?_ _) | (with_reducible refine Turn.trans ?_ (by assumption))))) h1 (by first | omega | (simp; omega)) hq0 (by omega)).mono ?_); rintro e w1 ⟨rfl, ht1⟩; have hz1 := ht1.size; (try simp at hz1); have F1 := (Blk.new w _ _).turn ht1 (by first | omega | (simp; omega)); (try simp only [World.size_alloc] at F1); have F1l := F1.lt)) | (refine at_load 44 (.tmp 9) rfl ?_; go_must (refine wpList_loadB (Blk.now F1 (by repeat (first | (with_reducible exact F1) | (with_reducible refine Blk.drew ?_) | (with_reducible refine Blk.drewN ?_ _) | (with_reducible refine Blk.alloc ?_ _) | (with_reducible refine Blk.far ?_ ?_ _) | omega | (focus (simp; done)) | (focus (simp; omega))))) 44 (.tmp 9) rfl (by rfl) 10 rfl [.int .i64 sr, .slice SA sn sc, .int .i64 sh, .int .i64 sl] rfl Try.underlying44 rfl sz_impl_Sender ?_)) | (go_at_call 52; go_must ((with_reducible refine (markSender_turn base top _ _ _ _ _ _ _ _ (hx.turn (by repeat (first | (with_reducible exact Turn.refl _ _ _) | (with_reducible refine Turn.alloc ?_ _) | (with_reducible refine Turn.trans ?_ (by assumption))))) h2 (by first | omega | (simp; omega)) (by omega) (by omega)).mono ?_); rintro e w2 ⟨rfl, ht2⟩)))
  go_ret
  exact ⟨ret_int (by omega), (by repeat (first | (with_reducible exact Turn.refl _ _ _) | (with_reducible refine Turn.alloc ?_ _) | (with_reducible refine Turn.trans ?_ (by assumption))))⟩
set_option maxHeartbeats 2000000 in
theorem markDriver_turn (base top : Nat) (cs : List Value) (N : Nat) (q : Int) (w : World) (h : DriverMk w base top cs N) (ht : top ≤ w.heap.size) (hq0 : 0 ≤ q) (hq1 : q + N ≤ 1099511627776) :
    Calls Try.prog 20 #[.agg cs.toArray, .int .i64 q] w fun e w' => e = .returned (.int .i64 (q + N)) ∧ Turn base top w w' := by
  obtain ⟨vp, IA, OA, ni, ci, no, co, M, wr, lo, e, hn, hi, ho, h1, h2, hN⟩ := h
  have E := Lib.hid e
  have lp := Lib.hid hn.len
  clear e
  go_enter Try.func20, Try.ntmps20
  go_wp2_with ((with_reducible refine at_load 47 (.tmp 5) rfl ?_); go_must (refine wpList_loadB (by repeat (first | (with_reducible exact (Blk.new w _ _)) | (with_reducible apply Blk.drew) | (with_reducible apply Blk.drewN) | (with_reducible apply Blk.alloc) | (with_reducible apply Blk.far) | omega | (focus (simp; done)) | (focus (simp; omega)))) 47 (.tmp 5) rfl (by rfl) 0 rfl (vp) (sub_l E.out) Try.underlying47 rfl (sz_impl_Port.trans (congrArg some (Eq.symm (lp.out)))) ?_))
  (with_reducible refine (markPort_turn base top vp M _ _ (hn.turn (by repeat (first | (with_reducible exact Turn.refl _ _ _) | (with_reducible refine Turn.alloc ?_ _) | (with_reducible refine Turn.trans ?_ (by assumption))))) (by first | omega | (simp; omega)) hq0 (by omega)).mono ?_); rintro e w1 ⟨rfl, ht1⟩; have hz1 := ht1.size; (try simp at hz1); have F1 := (Blk.new w _ _).turn ht1 (by first | omega | (simp; omega)); have F1l := F1.lt
  have c18 := F1.cellv 18 (tail_at E.out lp.out 0 rfl)
  go_wp2_with fail
  (with_reducible refine (markIntS_turn base top _ _ _ _ _ (hi.turn (by repeat (first | (with_reducible exact Turn.refl _ _ _) | (with_reducible refine Turn.alloc ?_ _) | (with_reducible refine Turn.trans ?_ (by assumption))))) (by omega) (by omega) (by omega)).mono ?_); rintro e w2 ⟨rfl, ht2⟩; have hz2 := ht2.size; (try simp at hz2); have F2 := F1.turn ht2 (by first | omega | (simp; omega)); have F2l := F2.lt
  have c19 := F2.cellv 19 (tail_at E.out lp.out 1 rfl)
  go_wp2_with fail
  (with_reducible refine (markIntS_turn base top _ _ _ _ _ (ho.turn (by repeat (first | (with_reducible exact Turn.refl _ _ _) | (with_reducible refine Turn.alloc ?_ _) | (with_reducible refine Turn.trans ?_ (by assumption))))) (by omega) (by omega) (by omega)).mono ?_); rintro e w3 ⟨rfl, ht3⟩
  go_wp2
  go_ret
  exact ⟨ret_int (by omega), (by repeat (first | (with_reducible exact Turn.refl _ _ _) | (with_reducible refine Turn.alloc ?_ _) | (with_reducible refine Turn.trans ?_ (by assumption))))⟩
set_option maxHeartbeats 2000000 in
theorem markLink_turn (base top : Nat) (cs : List Value) (N : Nat) (q : Int) (w : World) (h : LinkMk w base top cs N) (ht : top ≤ w.heap.size) (hq0 : 0 ≤ q) (hq1 : q + N ≤ 1099511627776) :
    Calls Try.prog 11 #[.agg cs.toArray, .int .i64 q] w fun e w' => e = .returned (.int .i64 (q + N)) ∧ Turn base top w w' := by
  obtain ⟨va, vb, M, M2, e, la, lb, h1, h2, hN⟩ := h
  have E := Lib.hid e
  have la := Lib.hid la
  have lb := Lib.hid lb
  clear e
  go_enter Try.func11, Try.ntmps11
  go_wp2_with ((with_reducible refine at_load 49 (.tmp 5) rfl ?_); go_must (refine wpList_loadB (by repeat (first | (with_reducible exact (Blk.new w _ _)) | (with_reducible apply Blk.drew) | (with_reducible apply Blk.drewN) | (with_reducible apply Blk.alloc) | (with_reducible apply Blk.far) | omega | (focus (simp; done)) | (focus (simp; omega)))) 49 (.tmp 5) rfl (by rfl) 0 rfl (va) (sub_l E.out) Try.underlying49 rfl (sz_impl_Driver.trans (congrArg some (Eq.symm (la.out)))) ?_))
  (with_reducible refine (markDriver_turn base top va M _ _ (h1.turn (by repeat (first | (with_reducible exact Turn.refl _ _ _) | (with_reducible refine Turn.alloc ?_ _) | (with_reducible refine Turn.trans ?_ (by assumption))))) (by first | omega | (simp; omega)) hq0 (by omega)).mono ?_); rintro e w1 ⟨rfl, ht1⟩; have hz1 := ht1.size; (try simp at hz1); have F1 := (Blk.new w _ _).turn ht1 (by first | omega | (simp; omega)); have F1l := F1.lt
  go_wp2_with ((with_reducible refine at_load 49 (.tmp 9) rfl ?_); go_must (refine wpList_loadB (by repeat (first | (with_reducible exact F1) | (with_reducible apply Blk.drew) | (with_reducible apply Blk.drewN) | (with_reducible apply Blk.alloc) | (with_reducible apply Blk.far) | omega | (focus (simp; done)) | (focus (simp; omega)))) 49 (.tmp 9) rfl (by rfl) 22 rfl (vb) (sub_r E.out la.out) Try.underlying49 rfl (sz_impl_Driver.trans (congrArg some (Eq.symm (lb.out)))) ?_))
  (with_reducible refine (markDriver_turn base top vb M2 _ _ (h2.turn (by repeat (first | (with_reducible exact Turn.refl _ _ _) | (with_reducible refine Turn.alloc ?_ _) | (with_reducible refine Turn.trans ?_ (by assumption))))) (by first | omega | (simp; omega)) (by omega) (by omega)).mono ?_); rintro e w2 ⟨rfl, ht2⟩
  go_wp2
  go_ret
  exact ⟨ret_int (by omega), (by repeat (first | (with_reducible exact Turn.refl _ _ _) | (with_reducible refine Turn.alloc ?_ _) | (with_reducible refine Turn.trans ?_ (by assumption))))⟩
end Go.Proofs.Ytdnjdbafffifeaa

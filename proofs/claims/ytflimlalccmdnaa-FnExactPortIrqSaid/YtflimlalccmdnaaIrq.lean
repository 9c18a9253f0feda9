/-
  INTERRUPTS: irqKinds, irqHappened, IrqOf (the program's and the reference's): both return what counts most of what is enabled and has happened.
-/
import Derived.Test.YtflimlalccmdnaaHeap2
import Derived.Test.YtflimlalccmdnaaWhole
import Derived.Test.YtflimlalccmdnaaRead
set_option linter.unusedVariables false
set_option linter.unusedSimpArgs false
namespace Go.Proofs.Ytflimlalccmdnaa
open Go.ChangeShapes Go.WideShapes Go.ChangeAt Go.RowKit

theorem sz_kinds : (Try.prog.info? 77).map (·.size) = some 18 := by kernel_rfl
set_option maxHeartbeats 1000000 in
theorem irqKinds_any (w : World) : Calls Try.prog 39 #[] w fun e w' => e = .returned (.agg #[.int .i64 0, .int .i64 6, .int .i64 4, .int .i64 1, .int .i64 4, .int .i64 1, .int .i64 2, .int .i64 12, .int .i64 1, .int .i64 3, .int .i64 2, .int .i64 2, .int .i64 4, .int .i64 0, .int .i64 8, .int .i64 5, .int .i64 1, .int .i64 0]) ∧ Below w.heap.size w w' := by
  go_enter Try.func39, Try.ntmps39
  go_wp2_with ((with_reducible refine at_store 77 (.tmp 0) (.tmp 7) rfl ?_); go_must (refine wpList_storeB (g := w.heap.size) (t := 77) (cs := #[.int .i64 0, .int .i64 0, .int .i64 0, .int .i64 0, .int .i64 0, .int .i64 0, .int .i64 0, .int .i64 0, .int .i64 0, .int .i64 0, .int .i64 0, .int .i64 0, .int .i64 0, .int .i64 0, .int .i64 0, .int .i64 0, .int .i64 0, .int .i64 0]) (Blk.new _ _ _) 77 (.tmp 0) (.tmp 7) rfl (by rfl) 0 rfl [.int .i64 0, .int .i64 6, .int .i64 4, .int .i64 1, .int .i64 4, .int .i64 1, .int .i64 2, .int .i64 12, .int .i64 1, .int .i64 3, .int .i64 2, .int .i64 2, .int .i64 4, .int .i64 0, .int .i64 8, .int .i64 5, .int .i64 1, .int .i64 0] rfl sz_kinds rfl (by simp) [.int .i64 0, .int .i64 6, .int .i64 4, .int .i64 1, .int .i64 4, .int .i64 1, .int .i64 2, .int .i64 12, .int .i64 1, .int .i64 3, .int .i64 2, .int .i64 2, .int .i64 4, .int .i64 0, .int .i64 8, .int .i64 5, .int .i64 1, .int .i64 0] rfl ?_; intro w1 N1 ho1))
  exact bodyPost_ret (results_blk rfl N1 _ rfl Try.underlying77 rfl sz_kinds) rfl ⟨rfl, (by repeat (first | (with_reducible exact b_refl _) | (with_reducible refine b_alloc ?_ _) | (with_reducible refine b_drew ?_) | (with_reducible refine b_drewN ?_ _) | (with_reducible refine b_set ?_ ?_ _) | (with_reducible refine b_trans ?_ (by assumption)) | (with_reducible refine b_only ?_ (by assumption) ?_) | omega | (focus (simp; done)) | (focus (simp; omega))))⟩
theorem happ_6 (st rd : Int) (md : Bool) (w : World) : Calls Try.prog 40 #[.int .i64 6, .int .i64 st, .int .i64 rd, .bool md] w fun e w' => e = .returned (.bool (bits .and .i64 st 14 != 0)) ∧ w = w' := by
  go_enter Try.func40, Try.ntmps40
  go_wp2
  go_ret
  exact ⟨rfl, rfl⟩
theorem happ_4 (st rd : Int) (md : Bool) (w : World) : Calls Try.prog 40 #[.int .i64 4, .int .i64 st, .int .i64 rd, .bool md] w fun e w' => e = .returned (.bool (rd == 1)) ∧ w = w' := by
  go_enter Try.func40, Try.ntmps40
  go_wp2
  go_ret
  exact ⟨rfl, rfl⟩
theorem happ_12 (st rd : Int) (md : Bool) (w : World) : Calls Try.prog 40 #[.int .i64 12, .int .i64 st, .int .i64 rd, .bool md] w fun e w' => e = .returned (.bool (rd == 2)) ∧ w = w' := by
  go_enter Try.func40, Try.ntmps40
  go_wp2
  go_ret
  exact ⟨rfl, rfl⟩
theorem happ_2 (st rd : Int) (md : Bool) (w : World) : Calls Try.prog 40 #[.int .i64 2, .int .i64 st, .int .i64 rd, .bool md] w fun e w' => e = .returned (.bool (bits .and .i64 st 32 != 0)) ∧ w = w' := by
  go_enter Try.func40, Try.ntmps40
  go_wp2
  go_ret
  exact ⟨rfl, rfl⟩
theorem happ_0 (st rd : Int) (md : Bool) (w : World) : Calls Try.prog 40 #[.int .i64 0, .int .i64 st, .int .i64 rd, .bool md] w fun e w' => e = .returned (.bool (md)) ∧ w = w' := by
  go_enter Try.func40, Try.ntmps40
  go_wp2
  go_ret
  exact ⟨rfl, rfl⟩
theorem kidx_0 (w : World) : (Instr.index 77 (.agg #[.int .i64 0, .int .i64 6, .int .i64 4, .int .i64 1, .int .i64 4, .int .i64 1, .int .i64 2, .int .i64 12, .int .i64 1, .int .i64 3, .int .i64 2, .int .i64 2, .int .i64 4, .int .i64 0, .int .i64 8, .int .i64 5, .int .i64 1, .int .i64 0]) (.int .i64 0)).run Try.prog w = .ok (.agg #[.int .i64 0, .int .i64 6, .int .i64 4]) w := by kernel_rfl
theorem kidx_1 (w : World) : (Instr.index 77 (.agg #[.int .i64 0, .int .i64 6, .int .i64 4, .int .i64 1, .int .i64 4, .int .i64 1, .int .i64 2, .int .i64 12, .int .i64 1, .int .i64 3, .int .i64 2, .int .i64 2, .int .i64 4, .int .i64 0, .int .i64 8, .int .i64 5, .int .i64 1, .int .i64 0]) (.int .i64 1)).run Try.prog w = .ok (.agg #[.int .i64 1, .int .i64 4, .int .i64 1]) w := by kernel_rfl
theorem kidx_2 (w : World) : (Instr.index 77 (.agg #[.int .i64 0, .int .i64 6, .int .i64 4, .int .i64 1, .int .i64 4, .int .i64 1, .int .i64 2, .int .i64 12, .int .i64 1, .int .i64 3, .int .i64 2, .int .i64 2, .int .i64 4, .int .i64 0, .int .i64 8, .int .i64 5, .int .i64 1, .int .i64 0]) (.int .i64 2)).run Try.prog w = .ok (.agg #[.int .i64 2, .int .i64 12, .int .i64 1]) w := by kernel_rfl
theorem kidx_3 (w : World) : (Instr.index 77 (.agg #[.int .i64 0, .int .i64 6, .int .i64 4, .int .i64 1, .int .i64 4, .int .i64 1, .int .i64 2, .int .i64 12, .int .i64 1, .int .i64 3, .int .i64 2, .int .i64 2, .int .i64 4, .int .i64 0, .int .i64 8, .int .i64 5, .int .i64 1, .int .i64 0]) (.int .i64 3)).run Try.prog w = .ok (.agg #[.int .i64 3, .int .i64 2, .int .i64 2]) w := by kernel_rfl
theorem kidx_4 (w : World) : (Instr.index 77 (.agg #[.int .i64 0, .int .i64 6, .int .i64 4, .int .i64 1, .int .i64 4, .int .i64 1, .int .i64 2, .int .i64 12, .int .i64 1, .int .i64 3, .int .i64 2, .int .i64 2, .int .i64 4, .int .i64 0, .int .i64 8, .int .i64 5, .int .i64 1, .int .i64 0]) (.int .i64 4)).run Try.prog w = .ok (.agg #[.int .i64 4, .int .i64 0, .int .i64 8]) w := by kernel_rfl
theorem kidx_5 (w : World) : (Instr.index 77 (.agg #[.int .i64 0, .int .i64 6, .int .i64 4, .int .i64 1, .int .i64 4, .int .i64 1, .int .i64 2, .int .i64 12, .int .i64 1, .int .i64 3, .int .i64 2, .int .i64 2, .int .i64 4, .int .i64 0, .int .i64 8, .int .i64 5, .int .i64 1, .int .i64 0]) (.int .i64 5)).run Try.prog w = .ok (.agg #[.int .i64 5, .int .i64 1, .int .i64 0]) w := by kernel_rfl

/-- The kinds that are pending among the first k. -/
def opt (b : Bool) (k : Int × Int × Int) : List (Int × Int × Int) := if b then [k] else []
def pend (b0 b1 b2 b3 b4 : Bool) (k : Nat) : List (Int × Int × Int) := match k with
  | 0 => []
  | 1 => opt b0 (0, 6, 4)
  | 2 => opt b0 (0, 6, 4) ++ opt b1 (1, 4, 1)
  | 3 => opt b0 (0, 6, 4) ++ opt b1 (1, 4, 1) ++ opt b2 (2, 12, 1)
  | 4 => opt b0 (0, 6, 4) ++ opt b1 (1, 4, 1) ++ opt b2 (2, 12, 1) ++ opt b3 (3, 2, 2)
  | _ => opt b0 (0, 6, 4) ++ opt b1 (1, 4, 1) ++ opt b2 (2, 12, 1) ++ opt b3 (3, 2, 2) ++ opt b4 (4, 0, 8)
def irqN (b0 b1 b2 b3 b4 : Bool) : Int := if b0 then 6 else if b1 then 4 else if b2 then 12 else if b3 then 2 else if b4 then 0 else 1
theorem pend_small (b0 b1 b2 b3 b4 : Bool) (k : Nat) (hk : k ≤ 5) : (pend b0 b1 b2 b3 b4 k).length ≤ 7 ∧ ∀ x ∈ pend b0 b1 b2 b3 b4 k, x.1 < k := by
  rcases (show k = 0 ∨ k = 1 ∨ k = 2 ∨ k = 3 ∨ k = 4 ∨ k = 5 by omega) with rfl | rfl | rfl | rfl | rfl | rfl <;> cases b0 <;> cases b1 <;> cases b2 <;> cases b3 <;> cases b4 <;> exact ⟨by decide, by decide⟩
theorem pend_head (b0 b1 b2 b3 b4 : Bool) : (pend b0 b1 b2 b3 b4 5 = [] ∧ irqN b0 b1 b2 b3 b4 = 1) ∨ ∃ n a d, (pend b0 b1 b2 b3 b4 5).length = n + 1 ∧ n ≤ 7 ∧ (pend b0 b1 b2 b3 b4 5)[0]? = some (a, irqN b0 b1 b2 b3 b4, d) := by
  cases b0 <;> cases b1 <;> cases b2 <;> cases b3 <;> cases b4 <;> first | exact .inl ⟨rfl, rfl⟩ | exact .inr ⟨_, _, _, rfl, by decide, rfl⟩
theorem andz (en : Int) (h0 : 0 ≤ en) (h1 : en ≤ 15) : (bits .and .i64 en 0 != 0) = false := by
  obtain ⟨m, rfl⟩ := Int.eq_ofNat_of_zero_le h0
  have := i64_and_nat m 0 (by omega) (by omega)
  simp at this
  simp [this]
theorem fld_kind (a b d : Value) (w : World) : (Instr.field 76 (.agg #[a, b, d]) 1).run Try.prog w = .ok b w := by kernel_rfl
theorem Blk.new1h (w : World) (o : Obj) (t : TypeId) (cs : Array Value) : Blk ((w.alloc o).alloc (.cells cs t)) (w.heap.size + 1) t cs := by
  have h := Blk.new (w.alloc o) t cs
  rwa [World.size_alloc] at h
theorem HeapIs.alloc {w : World} {hp B : Nat} {ks : List (Int × Int × Int)} (h : HeapIs w hp B ks) (o : Obj) : HeapIs (w.alloc o) hp B ks := by
  obtain ⟨A, n, c, H, own, h1, h2⟩ := h
  exact ⟨A, n, c, H.alloc o, own.alloc o, h1, h2⟩
set_option maxRecDepth 100000 in
set_option maxHeartbeats 8000000 in
theorem impl_IrqOf_in (st rd en : Int) (md e4 e1 e2 e8 s14 s32 r1 r2 : Bool) (w : World) (h1 : 0 ≤ st) (h2 : st ≤ 127) (h3 : 0 ≤ rd) (h4 : rd ≤ 2) (h5 : 0 ≤ en) (h6 : en ≤ 15)
    (hE4 : (bits .and .i64 en 4 != 0) = e4) (hE1 : (bits .and .i64 en 1 != 0) = e1) (hE2 : (bits .and .i64 en 2 != 0) = e2) (hE8 : (bits .and .i64 en 8 != 0) = e8) (hS14 : (bits .and .i64 st 14 != 0) = s14) (hS32 : (bits .and .i64 st 32 != 0) = s32) (hR1 : (rd == 1) = r1) (hR2 : (rd == 2) = r2) :
    Calls Try.prog 14 #[.int .i64 st, .int .i64 rd, .bool md, .int .i64 en] w fun e w' => e = .returned (.int .i64 (irqN (e4 && s14) (e1 && r1) (e1 && r2) (e2 && s32) (e8 && md))) ∧ Below w.heap.size w w' := by
  have k1 : ¬ st < 0 := by omega
  have k2 : ¬ 127 < st := by omega
  have k3 : ¬ rd < 0 := by omega
  have k4 : ¬ 2 < rd := by omega
  have k5 : ¬ en < 0 := by omega
  have k6 : ¬ 15 < en := by omega
  have hz := andz en h5 h6
  obtain ⟨b0, hb0⟩ : ∃ b, b = (e4 && s14) := ⟨_, rfl⟩
  rw [← hb0]
  obtain ⟨b1, hb1⟩ : ∃ b, b = (e1 && r1) := ⟨_, rfl⟩
  rw [← hb1]
  obtain ⟨b2, hb2⟩ : ∃ b, b = (e1 && r2) := ⟨_, rfl⟩
  rw [← hb2]
  obtain ⟨b3, hb3⟩ : ∃ b, b = (e2 && s32) := ⟨_, rfl⟩
  rw [← hb3]
  obtain ⟨b4, hb4⟩ : ∃ b, b = (e8 && md) := ⟨_, rfl⟩
  rw [← hb4]
  go_enter Try.func14, Try.ntmps14
  go_wp2_with fail
  (with_reducible refine (irqKinds_any _).mono ?_); rintro e w1 ⟨rfl, hb1⟩
  have h0 : HeapIs w1 (w.heap.size + 1) w.heap.size (pend b0 b1 b2 b3 b4 0) := ⟨some ⟨w.heap.size, 0, none⟩, 0, 0, (Blk.new1h w _ _ _).below hb1 (by simp), own_below_ ((by simpa [kindCells] using World.ownsRow_lit w #[] 0 (base := w.heap.size) (e := 76) (size := 3) (Nat.le_refl _) (by unfold maxLen; omega) rfl : (w.alloc (.cells #[] 76)).ownsRow w.heap.size 76 3 (.slice (some ⟨w.heap.size, 0, none⟩) 0 0) 0 (kindCells [])).alloc _) hb1, Nat.le_refl _, by unfold maxLen; omega⟩
  have B1 : Below w.heap.size w w1 := (by repeat (first | (with_reducible exact b_refl _) | (with_reducible refine b_alloc ?_ _) | (with_reducible refine b_drew ?_) | (with_reducible refine b_drewN ?_ _) | (with_reducible refine b_set ?_ ?_ _) | (with_reducible refine b_trans ?_ (by assumption)) | (with_reducible refine b_only ?_ (by assumption) ?_) | omega | (focus (simp; done)) | (focus (simp; omega))))
  have hs1 : w.heap.size + 1 < w1.heap.size := h0.lt
  go_wp2
  go_loopw [37] (fun x wr => ∃ k : Nat, k ≤ 6 ∧ x = .int .i64 k ∧ HeapIs wr (w.heap.size + 1) w.heap.size (pend b0 b1 b2 b3 b4 k) ∧ Below w.heap.size w wr) (fun x _ => 6 - (intOf x).toNat)
  case atStart => exact ⟨0, by omega, rfl, h0, B1⟩
  case round =>
    obtain ⟨k, hk, rfl, hH, hB⟩ := hrel
    have hlt := hH.lt
    have hBs : w.heap.size ≤ wr.heap.size := by omega
    clear h0 B1 hs1 hb1
    rcases (show k = 0 ∨ k = 1 ∨ k = 2 ∨ k = 3 ∨ k = 4 ∨ k = 5 ∨ k = 6 by omega) with rfl | rfl | rfl | rfl | rfl | rfl | rfl
    · skip
      have ki := kidx_0
      have hps := pend_small b0 b1 b2 b3 b4 0 (by decide)
      cases e4
      · have hb : pend b0 b1 b2 b3 b4 1 = pend b0 b1 b2 b3 b4 0 := by have : b0 = false := hb0.trans (by simp); simp [pend, opt, this]
        go_wp2
        go_roundw
        case rel => exact ⟨1, by omega, rfl, by rw [hb]; exact hH.alloc _, hB.alloc hBs _⟩
        case measure => simp [intOf]
      · go_wp2_with fail
        (with_reducible refine (happ_6 st rd md _).mono ?_); rintro e w1 ⟨rfl, rfl⟩
        rw [hS14]
        cases s14
        · have hb : pend b0 b1 b2 b3 b4 1 = pend b0 b1 b2 b3 b4 0 := by have : b0 = false := hb0.trans (by simp); simp [pend, opt, this]
          go_wp2
          go_roundw
          case rel => exact ⟨1, by omega, rfl, by rw [hb]; exact hH.alloc _, hB.alloc hBs _⟩
          case measure => simp [intOf]
        · have hb : pend b0 b1 b2 b3 b4 1 = pend b0 b1 b2 b3 b4 0 ++ [(0, 6, 4)] := by have : b0 = true := hb0.trans (by simp); simp [pend, opt, this]
          go_wp2_with fail
          (with_reducible refine (heapPush_any (w.heap.size + 1) w.heap.size (pend b0 b1 b2 b3 b4 0) 0 6 4 _ (hH.alloc _) (by simp; omega) (by omega) hps.1 (by simpa using hps.2)).mono ?_); rintro e w2 ⟨v2, rfl, h2, B2⟩
          go_wp2
          go_roundw
          case rel => exact ⟨1, by omega, rfl, by rw [hb]; exact h2, (hB.alloc hBs _).trans B2⟩
          case measure => simp [intOf]
    · skip
      have ki := kidx_1
      have hps := pend_small b0 b1 b2 b3 b4 1 (by decide)
      cases e1
      · have hb : pend b0 b1 b2 b3 b4 2 = pend b0 b1 b2 b3 b4 1 := by have : b1 = false := hb1.trans (by simp); simp [pend, opt, this]
        go_wp2
        go_roundw
        case rel => exact ⟨2, by omega, rfl, by rw [hb]; exact hH.alloc _, hB.alloc hBs _⟩
        case measure => simp [intOf]
      · go_wp2_with fail
        (with_reducible refine (happ_4 st rd md _).mono ?_); rintro e w1 ⟨rfl, rfl⟩
        rw [hR1]
        cases r1
        · have hb : pend b0 b1 b2 b3 b4 2 = pend b0 b1 b2 b3 b4 1 := by have : b1 = false := hb1.trans (by simp); simp [pend, opt, this]
          go_wp2
          go_roundw
          case rel => exact ⟨2, by omega, rfl, by rw [hb]; exact hH.alloc _, hB.alloc hBs _⟩
          case measure => simp [intOf]
        · have hb : pend b0 b1 b2 b3 b4 2 = pend b0 b1 b2 b3 b4 1 ++ [(1, 4, 1)] := by have : b1 = true := hb1.trans (by simp); simp [pend, opt, this]
          go_wp2_with fail
          (with_reducible refine (heapPush_any (w.heap.size + 1) w.heap.size (pend b0 b1 b2 b3 b4 1) 1 4 1 _ (hH.alloc _) (by simp; omega) (by omega) hps.1 (by simpa using hps.2)).mono ?_); rintro e w2 ⟨v2, rfl, h2, B2⟩
          go_wp2
          go_roundw
          case rel => exact ⟨2, by omega, rfl, by rw [hb]; exact h2, (hB.alloc hBs _).trans B2⟩
          case measure => simp [intOf]
    · skip
      have ki := kidx_2
      have hps := pend_small b0 b1 b2 b3 b4 2 (by decide)
      cases e1
      · have hb : pend b0 b1 b2 b3 b4 3 = pend b0 b1 b2 b3 b4 2 := by have : b2 = false := hb2.trans (by simp); simp [pend, opt, this]
        go_wp2
        go_roundw
        case rel => exact ⟨3, by omega, rfl, by rw [hb]; exact hH.alloc _, hB.alloc hBs _⟩
        case measure => simp [intOf]
      · go_wp2_with fail
        (with_reducible refine (happ_12 st rd md _).mono ?_); rintro e w1 ⟨rfl, rfl⟩
        rw [hR2]
        cases r2
        · have hb : pend b0 b1 b2 b3 b4 3 = pend b0 b1 b2 b3 b4 2 := by have : b2 = false := hb2.trans (by simp); simp [pend, opt, this]
          go_wp2
          go_roundw
          case rel => exact ⟨3, by omega, rfl, by rw [hb]; exact hH.alloc _, hB.alloc hBs _⟩
          case measure => simp [intOf]
        · have hb : pend b0 b1 b2 b3 b4 3 = pend b0 b1 b2 b3 b4 2 ++ [(2, 12, 1)] := by have : b2 = true := hb2.trans (by simp); simp [pend, opt, this]
          go_wp2_with fail
          (with_reducible refine (heapPush_any (w.heap.size + 1) w.heap.size (pend b0 b1 b2 b3 b4 2) 2 12 1 _ (hH.alloc _) (by simp; omega) (by omega) hps.1 (by simpa using hps.2)).mono ?_); rintro e w2 ⟨v2, rfl, h2, B2⟩
          go_wp2
          go_roundw
          case rel => exact ⟨3, by omega, rfl, by rw [hb]; exact h2, (hB.alloc hBs _).trans B2⟩
          case measure => simp [intOf]
    · skip
      have ki := kidx_3
      have hps := pend_small b0 b1 b2 b3 b4 3 (by decide)
      cases e2
      · have hb : pend b0 b1 b2 b3 b4 4 = pend b0 b1 b2 b3 b4 3 := by have : b3 = false := hb3.trans (by simp); simp [pend, opt, this]
        go_wp2
        go_roundw
        case rel => exact ⟨4, by omega, rfl, by rw [hb]; exact hH.alloc _, hB.alloc hBs _⟩
        case measure => simp [intOf]
      · go_wp2_with fail
        (with_reducible refine (happ_2 st rd md _).mono ?_); rintro e w1 ⟨rfl, rfl⟩
        rw [hS32]
        cases s32
        · have hb : pend b0 b1 b2 b3 b4 4 = pend b0 b1 b2 b3 b4 3 := by have : b3 = false := hb3.trans (by simp); simp [pend, opt, this]
          go_wp2
          go_roundw
          case rel => exact ⟨4, by omega, rfl, by rw [hb]; exact hH.alloc _, hB.alloc hBs _⟩
          case measure => simp [intOf]
        · have hb : pend b0 b1 b2 b3 b4 4 = pend b0 b1 b2 b3 b4 3 ++ [(3, 2, 2)] := by have : b3 = true := hb3.trans (by simp); simp [pend, opt, this]
          go_wp2_with fail
          (with_reducible refine (heapPush_any (w.heap.size + 1) w.heap.size (pend b0 b1 b2 b3 b4 3) 3 2 2 _ (hH.alloc _) (by simp; omega) (by omega) hps.1 (by simpa using hps.2)).mono ?_); rintro e w2 ⟨v2, rfl, h2, B2⟩
          go_wp2
          go_roundw
          case rel => exact ⟨4, by omega, rfl, by rw [hb]; exact h2, (hB.alloc hBs _).trans B2⟩
          case measure => simp [intOf]
    · skip
      have ki := kidx_4
      have hps := pend_small b0 b1 b2 b3 b4 4 (by decide)
      cases e8
      · have hb : pend b0 b1 b2 b3 b4 5 = pend b0 b1 b2 b3 b4 4 := by have : b4 = false := hb4.trans (by simp); simp [pend, opt, this]
        go_wp2
        go_roundw
        case rel => exact ⟨5, by omega, rfl, by rw [hb]; exact hH.alloc _, hB.alloc hBs _⟩
        case measure => simp [intOf]
      · go_wp2_with fail
        (with_reducible refine (happ_0 st rd md _).mono ?_); rintro e w1 ⟨rfl, rfl⟩
        skip
        cases md
        · have hb : pend b0 b1 b2 b3 b4 5 = pend b0 b1 b2 b3 b4 4 := by have : b4 = false := hb4.trans (by simp); simp [pend, opt, this]
          go_wp2
          go_roundw
          case rel => exact ⟨5, by omega, rfl, by rw [hb]; exact hH.alloc _, hB.alloc hBs _⟩
          case measure => simp [intOf]
        · have hb : pend b0 b1 b2 b3 b4 5 = pend b0 b1 b2 b3 b4 4 ++ [(4, 0, 8)] := by have : b4 = true := hb4.trans (by simp); simp [pend, opt, this]
          go_wp2_with fail
          (with_reducible refine (heapPush_any (w.heap.size + 1) w.heap.size (pend b0 b1 b2 b3 b4 4) 4 0 8 _ (hH.alloc _) (by simp; omega) (by omega) hps.1 (by simpa using hps.2)).mono ?_); rintro e w2 ⟨v2, rfl, h2, B2⟩
          go_wp2
          go_roundw
          case rel => exact ⟨5, by omega, rfl, by rw [hb]; exact h2, (hB.alloc hBs _).trans B2⟩
          case measure => simp [intOf]
    · skip
      have ki := kidx_5
      go_wp2
      go_roundw
      case rel => exact ⟨6, by omega, rfl, hH.alloc _, hB.alloc hBs _⟩
      case measure => simp [intOf]
    · obtain ⟨A, n, c, H, own, hnc, hcm⟩ := id hH
      have hn := HeapIs.len own
      have x0 := H.cell 0
      simp at x0
      have hpe : pend b0 b1 b2 b3 b4 6 = pend b0 b1 b2 b3 b4 5 := rfl
      rw [hpe] at hH hn
      rcases pend_head b0 b1 b2 b3 b4 with ⟨p0, q0⟩ | ⟨n', a, d, p1, p2, p3⟩
      · rw [p0] at hn
        simp at hn
        subst hn
        have Q0 := Lib.hid q0
        clear H own q0
        go_wp2_with fail
        (with_reducible refine (Len_any A _ c _).mono ?_); rintro e w2 ⟨rfl, rfl⟩
        go_wp2
        go_ret
        exact ⟨ret_int Q0.out.symm, hB⟩
      · rw [p1] at hn
        subst hn
        have ta := ta_kind
        have fl := fld_kind
        have nz : ¬ ((n' : Int) + 1 = 0) := by omega
        have nz2 : ((n' : Int) + 1 == 0) = false := by simpa using nz
        clear H own
        go_wp2_with fail
        (with_reducible refine (Len_any A _ c _).mono ?_); rintro e w2 ⟨rfl, rfl⟩
        go_wp2_with fail
        (with_reducible refine (heapPop_any (w.heap.size + 1) w.heap.size n' _ a _ d _ hH hBs (by omega) p1 p2 p3).mono ?_); rintro e w3 ⟨rfl, B3⟩
        go_wp2
        go_ret
        exact ⟨ret_int (by first | rfl | (congr 1 <;> first | rfl | (symm; assumption))), hB.trans B3⟩
end Go.Proofs.Ytflimlalccmdnaa

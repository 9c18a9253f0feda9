/-
  LINES OF THE OTHER SIDE: ModemRead and ModemSet (the program's), whose loops go over both lines.
-/
import Derived.Test.YtjnkbheolgchjaaModem
set_option linter.unusedVariables false
set_option linter.unusedSimpArgs false
namespace Go.Proofs.Ytjnkbheolgchjaa
open Go.ChangeShapes Go.WideShapes Go.ChangeAt Go.RowKit

def b1 (a c : Bool) : Int := (if c = true then 1 else 0) + (if a = true then 16 else 0)
def modemBits (a b c d : Bool) : Int := b1 a c + ((if d = true then 2 else 0) + (if b = true then 32 else 0))
theorem b1_bd (a c : Bool) : 0 ≤ b1 a c ∧ b1 a c ≤ 17 := by cases a <;> cases c <;> decide
theorem Blk.to {w : World} {g : Nat} {t : TypeId} {cs cs' : Array Value} (h : Blk w g t cs) (e : cs = cs') : Blk w g t cs' := e ▸ h
set_option maxHeartbeats 2000000 in
theorem impl_ModemRead (a b c d : Bool) (w : World) : Calls Try.prog 20 #[.agg #[.bool a, .bool b, .bool c, .bool d]] w fun e w' => e = .returned (.tuple #[.agg #[.bool a, .bool b, .bool false, .bool false], .int .i64 (modemBits a b c d)]) ∧ Below w.heap.size w w' := by
  have i0 := idx0
  have i1 := idx1
  go_enter Try.func20, Try.ntmps20
  go_wp2_with (go_at_call 22; go_must ((with_reducible refine (impl_modemLines _ _).mono ?_); rintro e w1 ⟨rfl, hb1⟩; have hz1 := hb1.size; (try simp at hz1); have M1 := ((Blk.new _ _ _).alloc _).below hb1 (by first | omega | (simp; done) | (simp; omega)); have M1l := M1.lt; have M1c0 := M1.cell 0; have M1f0 := M1.frozen 0; have M1c1 := M1.cell 1; have M1f1 := M1.frozen 1; have M1c2 := M1.cell 2; have M1f2 := M1.frozen 2; have M1c3 := M1.cell 3; have M1f3 := M1.frozen 3; (try simp at M1c0 M1c1 M1c2 M1c3); have R1 := (Blk.new _ _ _).below hb1 (by first | omega | (simp; done) | (simp; omega)); have R1l := R1.lt; have R1c0 := R1.cell 0; have R1f0 := R1.frozen 0; have R1c1 := R1.cell 1; have R1f1 := R1.frozen 1; have R1c2 := R1.cell 2; have R1f2 := R1.frozen 2; have R1c3 := R1.cell 3; have R1f3 := R1.frozen 3; (try simp at R1c0 R1c1 R1c2 R1c3)))
  have hM := ((Blk.new w 25 #[.bool a, .bool b, .bool c, .bool d]).alloc (.cells #[.bool false, .bool false, .bool false, .bool false] 25)).below hb1 (by simp only [World.size_alloc]; omega)
  have hR : Blk w1 (w.heap.size + 1) 25 #[.bool false, .bool false, .bool false, .bool false] := by
    have h0 := Blk.new (w.alloc (.cells #[.bool a, .bool b, .bool c, .bool d] 25)) 25 #[.bool false, .bool false, .bool false, .bool false]
    rw [World.size_alloc] at h0
    exact h0.below hb1 (by simp)
  have hB := b_trans (b_alloc (b_alloc (b_refl w) _) _) hb1
  go_loopw [4, 8] (fun bits i wr => ∃ k : Nat, k ≤ 2 ∧ i = .int .i64 k ∧ bits = .int .i64 (if k = 0 then 0 else if k = 1 then b1 a c else modemBits a b c d) ∧ Blk wr w.heap.size 25 #[.bool a, .bool b, .bool (c && k == 0), .bool (d && k != 2)] ∧ Blk wr (w.heap.size + 1) 25 #[.bool false, .bool false, .bool false, .bool false] ∧ Below w.heap.size w wr) (fun _ i _ => 2 - (intOf i).toNat)
  case atStart => exact ⟨0, by omega, rfl, rfl, hM.to (by simp), hR, hB⟩
  case round =>
    clear hM hR hB hb1
    obtain ⟨k, hk, rfl, rfl, hM, hR, hB⟩ := hrel
    have hk3 : k = 0 ∨ k = 1 ∨ k = 2 := by omega
    rcases hk3 with rfl | rfl | rfl
    · replace hM := hM.to (cs' := #[.bool a, .bool b, .bool c, .bool d]) (by simp)
      have m0 : wr.cell? ⟨w.heap.size, 0, none⟩ = some (.bool a) := hM.cell 0
      have m2 : wr.cell? ⟨w.heap.size, 2, none⟩ = some (.bool c) := hM.cell 2
      have f2 := hM.frozen 2
      have lt := hM.lt
      have HM := Lib.hid hM
      have HR := Lib.hid hR
      have HB := Lib.hid hB
      clear hM hR hB
      cases a <;> cases c
      all_goals go_wp2
      all_goals go_roundw
      all_goals first
        | (exact ⟨1, by omega, rfl, by simp [b1], ((HM.out.set_ 2 _).alloc _).to (by simp), (HR.out.far (by simp) _).alloc _, b_alloc (b_set HB.out (Nat.le_refl _) _) _⟩)
        | (simp [intOf]; done)
    · replace hM := hM.to (cs' := #[.bool a, .bool b, .bool false, .bool d]) (by simp)
      have m1 : wr.cell? ⟨w.heap.size, 1, none⟩ = some (.bool b) := hM.cell 1
      have m3 : wr.cell? ⟨w.heap.size, 3, none⟩ = some (.bool d) := hM.cell 3
      have f3 := hM.frozen 3
      have lt := hM.lt
      obtain ⟨b10, b11⟩ := b1_bd a c
      have hz : (if (1 : Nat) = 0 then (0 : Int) else if (1 : Nat) = 1 then b1 a c else modemBits a b c d) = b1 a c := by simp
      rw [hz]
      clear hz
      have e1 : modemBits a b c d = b1 a c + ((if d = true then 2 else 0) + (if b = true then 32 else 0)) := rfl
      generalize b1 a c = z at *
      have HM := Lib.hid hM
      have HR := Lib.hid hR
      have HB := Lib.hid hB
      have HE := Lib.hid e1
      clear hM hR hB e1
      cases b <;> cases d
      all_goals go_wp2
      all_goals go_roundw
      all_goals first
        | (exact ⟨2, by omega, rfl, by (have e := HE.out; simp at e; simp [e]; try go_num), ((HM.out.set_ 3 _).alloc _).to (by simp), (HR.out.far (by simp) _).alloc _, b_alloc (b_set HB.out (Nat.le_refl _) _) _⟩)
        | (simp [intOf]; done)
    · replace hM := hM.to (cs' := #[.bool a, .bool b, .bool false, .bool false]) (by simp)
      have m0 : wr.cell? ⟨w.heap.size, 0, none⟩ = some (.bool a) := hM.cell 0
      have m1 : wr.cell? ⟨w.heap.size, 1, none⟩ = some (.bool b) := hM.cell 1
      have m2 : wr.cell? ⟨w.heap.size, 2, none⟩ = some (.bool false) := hM.cell 2
      have m3 : wr.cell? ⟨w.heap.size, 3, none⟩ = some (.bool false) := hM.cell 3
      have r0 : wr.cell? ⟨w.heap.size + 1, 0, none⟩ = some (.bool false) := hR.cell 0
      have r1 : wr.cell? ⟨w.heap.size + 1, 1, none⟩ = some (.bool false) := hR.cell 1
      have r2 : wr.cell? ⟨w.heap.size + 1, 2, none⟩ = some (.bool false) := hR.cell 2
      have r3 : wr.cell? ⟨w.heap.size + 1, 3, none⟩ = some (.bool false) := hR.cell 3
      have f0 := hR.frozen 0
      have f1 := hR.frozen 1
      have f2 := hR.frozen 2
      have f3 := hR.frozen 3
      have lt := hM.lt
      have lt2 := hR.lt
      have hz : (if (2 : Nat) = 0 then (0 : Int) else if (2 : Nat) = 1 then b1 a c else modemBits a b c d) = modemBits a b c d := by simp
      rw [hz]
      clear hz hM hR
      go_wp2
      exact bodyPost_ret (by simp [results, Try.results20, go_sem, *]; repeat (first | exact rfl | refine And.intro ?_ ?_)) rfl ⟨rfl, (by repeat (first | (with_reducible exact b_refl _) | (with_reducible refine b_alloc ?_ _) | (with_reducible refine b_drew ?_) | (with_reducible refine b_drewN ?_ _) | (with_reducible refine b_set ?_ ?_ _) | (with_reducible refine b_trans ?_ (by assumption)) | (with_reducible refine b_only ?_ (by assumption) ?_) | omega | (focus (simp; done)) | (focus (simp; omega))))⟩
def modemWas (k : Nat) (a b c d x y : Bool) : Array Value := #[.bool (if k = 0 then a else x), .bool (if k = 2 then y else b), .bool (c || (k != 0 && a != x)), .bool (d || (k == 2 && b != y))]
set_option maxHeartbeats 2000000 in
theorem impl_ModemSet (a b c d x y : Bool) (w : World) : Calls Try.prog 15 #[.agg #[.bool a, .bool b, .bool c, .bool d], .bool x, .bool y] w fun e w' => e = .returned (.agg #[.bool x, .bool y, .bool (c || a != x), .bool (d || b != y)]) ∧ Below w.heap.size w w' := by
  have i0 := idx0
  have i1 := idx1
  go_enter Try.func15, Try.ntmps15
  go_wp2_with (go_at_call 22; go_must ((with_reducible refine (impl_modemLines _ _).mono ?_); rintro e w1 ⟨rfl, hb1⟩; have hz1 := hb1.size; (try simp at hz1); have M1 := (((Blk.new _ _ _).alloc _).alloc _).below hb1 (by first | omega | (simp; done) | (simp; omega)); have M1l := M1.lt; have M1c0 := M1.cell 0; have M1f0 := M1.frozen 0; have M1c1 := M1.cell 1; have M1f1 := M1.frozen 1; have M1c2 := M1.cell 2; have M1f2 := M1.frozen 2; have M1c3 := M1.cell 3; have M1f3 := M1.frozen 3; (try simp at M1c0 M1c1 M1c2 M1c3); have T1 := (Blk.new _ _ _).below hb1 (by first | omega | (simp; done) | (simp; omega)); have T1l := T1.lt; have T1c0 := T1.cell 0; have T1f0 := T1.frozen 0; have T1c1 := T1.cell 1; have T1f1 := T1.frozen 1; (try simp at T1c0 T1c1)))
  have hM := (((Blk.new w 25 #[.bool a, .bool b, .bool c, .bool d]).alloc (.cells #[.bool false, .bool false, .bool false, .bool false] 25)).alloc (.cells #[.bool x, .bool y] 44)).below hb1 (by simp only [World.size_alloc]; omega)
  have hR : Blk w1 (w.heap.size + 1) 25 #[.bool false, .bool false, .bool false, .bool false] := by
    have h0 := (Blk.new (w.alloc (.cells #[.bool a, .bool b, .bool c, .bool d] 25)) 25 #[.bool false, .bool false, .bool false, .bool false]).alloc (.cells #[.bool x, .bool y] 44)
    rw [World.size_alloc] at h0
    exact h0.below hb1 (by simp only [World.size_alloc]; omega)
  have hT : Blk w1 (w.heap.size + 1 + 1) 44 #[.bool x, .bool y] := by
    have h0 := Blk.new ((w.alloc (.cells #[.bool a, .bool b, .bool c, .bool d] 25)).alloc (.cells #[.bool false, .bool false, .bool false, .bool false] 25)) 44 #[.bool x, .bool y]
    rw [World.size_alloc, World.size_alloc] at h0
    exact h0.below hb1 (by simp only [World.size_alloc]; omega)
  have hB := b_trans (b_alloc (b_alloc (b_alloc (b_refl w) _) _) _) hb1
  go_loopw [14] (fun i wr => ∃ k : Nat, k ≤ 2 ∧ i = .int .i64 k ∧ Blk wr w.heap.size 25 (modemWas k a b c d x y) ∧ Blk wr (w.heap.size + 1) 25 #[.bool false, .bool false, .bool false, .bool false] ∧ Blk wr (w.heap.size + 1 + 1) 44 #[.bool x, .bool y] ∧ Below w.heap.size w wr) (fun i _ => 2 - (intOf i).toNat)
  case atStart => exact ⟨0, by omega, rfl, hM.to (by simp [modemWas]), hR, hT, hB⟩
  case round =>
    clear hM hR hT hB hb1
    obtain ⟨k, hk, rfl, hM, hR, hT, hB⟩ := hrel
    have hk3 : k = 0 ∨ k = 1 ∨ k = 2 := by omega
    rcases hk3 with rfl | rfl | rfl
    · replace hM := hM.to (cs' := #[.bool a, .bool b, .bool c, .bool d]) (by simp [modemWas])
      have m0 : wr.cell? ⟨w.heap.size, 0, none⟩ = some (.bool a) := hM.cell 0
      have m2 : wr.cell? ⟨w.heap.size, 2, none⟩ = some (.bool c) := hM.cell 2
      have t0 : wr.cell? ⟨w.heap.size + 1 + 1, 0, none⟩ = some (.bool x) := hT.cell 0
      have f0 := hM.frozen 0
      have f2 := hM.frozen 2
      have lt := hM.lt
      have lt2 := hT.lt
      have HM := Lib.hid hM
      have HR := Lib.hid hR
      have HT := Lib.hid hT
      have HB := Lib.hid hB
      clear hM hR hT hB
      cases a <;> cases x
      all_goals go_wp2
      all_goals go_quiet (fail)
      all_goals go_wp2
      all_goals go_region
      all_goals go_wp2
      all_goals go_roundw
      all_goals first | (simp [intOf]; done) | skip
      all_goals
        refine ⟨1, by omega, rfl, ?_, ?_, ?_, ?_⟩
        · first
            | with_reducible exact Blk.to (Blk.set_ (Blk.drewN (Blk.alloc HM.out _) _) 0 _) (by simp [modemWas])
            | with_reducible exact Blk.to (Blk.drew (Blk.set_ (Blk.set_ (Blk.drewN (Blk.alloc HM.out _) _) 2 _) 0 _)) (by simp [modemWas])
        · repeat (first | (with_reducible exact HR.out) | (with_reducible refine Blk.drew ?_) | (with_reducible refine Blk.drewN ?_ _) | (with_reducible refine Blk.alloc ?_ _) | (with_reducible refine Blk.far ?_ (by first | (simp; done) | (simp; omega)) _))
        · repeat (first | (with_reducible exact HT.out) | (with_reducible refine Blk.drew ?_) | (with_reducible refine Blk.drewN ?_ _) | (with_reducible refine Blk.alloc ?_ _) | (with_reducible refine Blk.far ?_ (by first | (simp; done) | (simp; omega)) _))
        · have hB := HB.out
          exact (by repeat (first | (with_reducible exact b_refl _) | (with_reducible refine b_alloc ?_ _) | (with_reducible refine b_drew ?_) | (with_reducible refine b_drewN ?_ _) | (with_reducible refine b_set ?_ ?_ _) | (with_reducible refine b_trans ?_ (by assumption)) | (with_reducible refine b_only ?_ (by assumption) ?_) | omega | (focus (simp; done)) | (focus (simp; omega))))
    · replace hM := hM.to (cs' := #[.bool x, .bool b, .bool (c || a != x), .bool d]) (by simp [modemWas])
      have m0 : wr.cell? ⟨w.heap.size, 1, none⟩ = some (.bool b) := hM.cell 1
      have t0 : wr.cell? ⟨w.heap.size + 1 + 1, 1, none⟩ = some (.bool y) := hT.cell 1
      have f0 := hM.frozen 1
      have f2 := hM.frozen 3
      have lt := hM.lt
      have lt2 := hT.lt
      have m3 : wr.cell? ⟨w.heap.size, 3, none⟩ = some (.bool d) := hM.cell 3
      have HM := Lib.hid hM
      have HR := Lib.hid hR
      have HT := Lib.hid hT
      have HB := Lib.hid hB
      clear hM hR hT hB
      cases b <;> cases y
      all_goals go_wp2
      all_goals go_quiet (fail)
      all_goals go_wp2
      all_goals go_region
      all_goals go_wp2
      all_goals go_roundw
      all_goals first | (simp [intOf]; done) | skip
      all_goals
        refine ⟨2, by omega, rfl, ?_, ?_, ?_, ?_⟩
        · first
            | with_reducible exact Blk.to (Blk.set_ (Blk.drewN (Blk.alloc HM.out _) _) 1 _) (by simp [modemWas])
            | with_reducible exact Blk.to (Blk.drew (Blk.set_ (Blk.set_ (Blk.drewN (Blk.alloc HM.out _) _) 3 _) 1 _)) (by simp [modemWas])
        · repeat (first | (with_reducible exact HR.out) | (with_reducible refine Blk.drew ?_) | (with_reducible refine Blk.drewN ?_ _) | (with_reducible refine Blk.alloc ?_ _) | (with_reducible refine Blk.far ?_ (by first | (simp; done) | (simp; omega)) _))
        · repeat (first | (with_reducible exact HT.out) | (with_reducible refine Blk.drew ?_) | (with_reducible refine Blk.drewN ?_ _) | (with_reducible refine Blk.alloc ?_ _) | (with_reducible refine Blk.far ?_ (by first | (simp; done) | (simp; omega)) _))
        · have hB := HB.out
          exact (by repeat (first | (with_reducible exact b_refl _) | (with_reducible refine b_alloc ?_ _) | (with_reducible refine b_drew ?_) | (with_reducible refine b_drewN ?_ _) | (with_reducible refine b_set ?_ ?_ _) | (with_reducible refine b_trans ?_ (by assumption)) | (with_reducible refine b_only ?_ (by assumption) ?_) | omega | (focus (simp; done)) | (focus (simp; omega))))
    · replace hM := hM.to (cs' := #[.bool x, .bool y, .bool (c || a != x), .bool (d || b != y)]) (by simp [modemWas])
      have m0 : wr.cell? ⟨w.heap.size, 0, none⟩ = some (.bool x) := hM.cell 0
      have m1 : wr.cell? ⟨w.heap.size, 1, none⟩ = some (.bool y) := hM.cell 1
      have m2 : wr.cell? ⟨w.heap.size, 2, none⟩ = some (.bool (c || a != x)) := hM.cell 2
      have m3 : wr.cell? ⟨w.heap.size, 3, none⟩ = some (.bool (d || b != y)) := hM.cell 3
      have r0 : wr.cell? ⟨w.heap.size + 1, 0, none⟩ = some (.bool false) := hR.cell 0
      have r1 : wr.cell? ⟨w.heap.size + 1, 1, none⟩ = some (.bool false) := hR.cell 1
      have r2 : wr.cell? ⟨w.heap.size + 1, 2, none⟩ = some (.bool false) := hR.cell 2
      have r3 : wr.cell? ⟨w.heap.size + 1, 3, none⟩ = some (.bool false) := hR.cell 3
      have f0 := hR.frozen 0
      have f1 := hR.frozen 1
      have f2 := hR.frozen 2
      have f3 := hR.frozen 3
      have lt := hM.lt
      have lt2 := hR.lt
      clear hM hR hT
      go_wp2
      exact bodyPost_ret (by simp [results, Try.results15, go_sem, *]; repeat (first | exact rfl | refine And.intro ?_ ?_)) rfl ⟨rfl, (by repeat (first | (with_reducible exact b_refl _) | (with_reducible refine b_alloc ?_ _) | (with_reducible refine b_drew ?_) | (with_reducible refine b_drewN ?_ _) | (with_reducible refine b_set ?_ ?_ _) | (with_reducible refine b_trans ?_ (by assumption)) | (with_reducible refine b_only ?_ (by assumption) ?_) | omega | (focus (simp; done)) | (focus (simp; omega))))⟩
end Go.Proofs.Ytjnkbheolgchjaa

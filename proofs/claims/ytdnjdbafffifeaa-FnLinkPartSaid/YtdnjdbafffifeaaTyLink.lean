/-
  THE DRAW OF A LINK: l92Link, DrawLinkValid: some link whose lists have at most 2^20 elements; the reader alone has moved.
-/
import Derived.Test.YtdnjdbafffifeaaTyDraw
import Derived.Test.YtdnjdbafffifeaaDrawDriver
set_option linter.unusedVariables false
set_option linter.unusedSimpArgs false
namespace Go.Proofs.Ytdnjdbafffifeaa
open Go.ChangeShapes Go.WideShapes Go.ChangeAt Go.RowKit

theorem link_ti : TiOk ⟨51, 44, true, linkC, zDriver ++ zDriver, [(0, 22), (22, 22)]⟩ := tisA_ok _ (by simp [tisA])
theorem cells_agg (cs : Array Value) : (Value.agg cs).cells = cs := rfl
theorem run_build_link {va vb L : List Value} (la : va.length = 22) (lb : vb.length = 22) (e : va ++ vb = L) (w : World) : (Instr.build 51 #[(0, .agg va.toArray), (1, .agg vb.toArray)]).run Try.prog w = .ok (.agg L.toArray) w := by
  subst e
  obtain ⟨info, z, e1, e2, e3, e4, e5, e5', h6, _⟩ := link_ti
  obtain ⟨fs, hu, hfl⟩ := h6 rfl
  have hp := run_places hfl w
  simp only [bind_pure_comp] at hp
  have hz := e4.len
  have hz2 : z.cells.toList.length = 44 := hz
  obtain ⟨c1, k1, k2⟩ := fill_step (fun n => ([(0, 22), (22, 22)] : List (Nat × Nat))[n]?) z.cells 0 (.agg va.toArray) [(1, .agg vb.toArray)] (off := 0) (sz := 22) rfl (by simp [cells_agg, la]) (by rw [← Array.length_toList (xs := z.cells), hz2]; simp [cells_agg, la])
  have l1 : c1.toList.length = 44 := by rw [k2]; simp [cells_agg, la]; simp at hz2; omega
  obtain ⟨c2, k3, k4⟩ := fill_step (fun n => ([(0, 22), (22, 22)] : List (Nat × Nat))[n]?) c1 1 (.agg vb.toArray) [] (off := 22) (sz := 22) rfl (by simp [cells_agg, lb]) (by rw [← Array.length_toList (xs := c1), l1]; simp [cells_agg, lb])
  have hf : Instr.fill (fun n => ([(0, 22), (22, 22)] : List (Nat × Nat))[n]?) z.cells [(0, .agg va.toArray), (1, .agg vb.toArray)] = some c2 := by rw [k1, k3]; rfl
  have hc : c2 = (va ++ vb).toArray := by
    apply Array.ext'
    rw [k4, k2]
    simp only [cells_agg, List.toList_toArray, List.take_zero, List.nil_append, Nat.zero_add, la, lb]
    have d1 : List.take 22 (va ++ z.cells.toList.drop 22) = va := List.take_left' la
    have d2 : List.drop (22 + 22) (va ++ z.cells.toList.drop 22) = [] := List.drop_eq_nil_of_le (by simp [la]; simp at hz2; omega)
    rw [d1, d2, List.append_nil]
  subst hc
  simp only at e1
  simp [Instr.build, zeroValue, typeInfo, e1, e3, run_underlying hu, hp, hf]
theorem at_build {P : Program} {ops : Array Oper} {rest : List Oper} {o : Oper} {a : Act} {Q : Exit → Act → World → Prop} {w : World} (x y : Operand) (_ho : o.op = .build 51 #[(0, x), (1, y)]) (h : wpList P ops Q (o :: rest) a w) : wpList P ops Q (o :: rest) a w := h
theorem wpList_buildL {ops : Array Oper} {rest : List Oper} {o : Oper} {a : Act} {Q : Exit → Act → World → Prop} {w : World} {va vb L : List Value} (hgd : o.guard = none) (x y : Operand) (ho : o.op = .build 51 #[(0, x), (1, y)]) (hx : a.eval x = .agg va.toArray) (hy : a.eval y = .agg vb.toArray)
    (la : va.length = 22) (lb : vb.length = 22) (e : va ++ vb = L) (h : wpList Try.prog ops Q rest (a.put o.dst (.agg L.toArray)) w) : wpList Try.prog ops Q (o :: rest) a w :=
  wpList_plain hgd fun _ hK => by
    have hr := run_build_link la lb e w
    unfold Oper.wp execOp
    simp only [ho, List.map_toArray, List.map_cons, List.map_nil, hx, hy, Sem.run_bind, hr, Result.andThen_ok, Sem.run_pure]
    exact hK _ _ h
theorem step_storeL {P : Program} {ops : Array Oper} {o : Oper} {a : Act} {K : Act → World → Prop} {Q : Exit → Act → World → Prop} {E : Prop} {w : World} {g : Nat} {t : TypeId} {cs : Array Value} (h : Blk w g t cs) (ty : TypeId) (x y : Operand) (ho : o.op = .store ty x y) (hgd : Region.wanted o (yielded ops a.tmps) = true)
    (off : Nat) (hx : a.eval x = .pointer (some ⟨g, off, none⟩)) (vs : List Value) (hy : a.eval y = .agg vs.toArray) (hi : (P.info? ty).map (·.size) = some vs.length) (h1 : vs.all (·.oneCell') = true) (hn : off + vs.length ≤ cs.size)
    (cs' : List Value) (hcs : cs.toList.take off ++ vs ++ cs.toList.drop (off + vs.length) = cs')
    (hK : ∀ w', Blk w' g t cs'.toArray → w.grownBy w' (some g) → K (a.put o.dst undef) w') : if Region.wanted o (yielded ops a.tmps) = true then Oper.wp P o a w K Q else E := by
  rw [if_pos hgd]
  subst hcs
  refine wp_store_mid ty x y ho g off vs.toArray hx hy (h.there (by simpa using hn)) (by simpa using hi) (all_oneCell_toArray fun v hv => List.all_eq_true.1 h1 v hv) ?_
  simp only [List.toList_toArray]
  exact hK _ (setCells_Blk vs w cs off h hn) (setCells_only vs w off)
section
variable {H H1 H2 : Hp} {w w1 w2 w' : World} {rb base : Nat} {cs : List Value} {d : DriverD}
theorem DriverOwn.past (h : DriverOwn w base cs d) {g : Nat} {t : TypeId} {cs0 : Array Value} (hb : Blk w g t cs0) (h1 : 3 ≠ t) (h2 : 64 ≠ t) (ho : w.grownBy w' (some g)) : DriverOwn w' base cs d := by
  obtain ⟨vp, IA, OA, ni, ci, no, co, e, ⟨RA, SA, rn, sn, rc, sc, e2, hg, hx⟩, hi, hou⟩ := h
  exact ⟨vp, IA, OA, ni, ci, no, co, e, ⟨RA, SA, rn, sn, rc, sc, e2, hg.kept ho (.inr (own_blk_ne hg hb h2)), hx.kept ho (.inr (own_blk_ne hx hb h1))⟩, hi.kept ho (.inr (own_blk_ne hi hb h1)), hou.kept ho (.inr (own_blk_ne hou hb h1))⟩
theorem FrR.trans (h : FrR rb H w H1 w1) (h' : FrR rb H1 w1 H2 w2) : FrR rb H w H2 w2 := by
  refine ⟨h'.os.trans h.os, h'.tape.trans h.tape, h'.output.trans h.output, Nat.le_trans h.size h'.size, h.le.trans h'.le, fun g x e e0 => ?_, fun g hg e0 hX => ?_⟩
  · cases e1 : H1 g with
    | none => exact Nat.le_trans h.size (h'.new g x e e1)
    | some y => exact h.new g y e1 e0
  · exact (h'.old g (Nat.lt_of_lt_of_le hg h.size) (h.none_ e0 hg) hX).trans (h.old g hg e0 hX)
theorem FrR.grown (h : FrR rb (fun _ => none) w H1 w1) : w.grownBy w1 (some rb) := ⟨h.os, h.tape, h.output, h.size, fun g hg hne => h.old g hg rfl (fun e => hne (by rw [e]))⟩
theorem Blk.frR {g : Nat} {t : TypeId} {cs : Array Value} (h : Blk w g t cs) (f : FrR rb H w H1 w1) (hn : H g = none) (hne : ¬ g = rb) : Blk w1 g t cs := (f.old g h.lt hn hne).trans h
theorem HW.drew (h : HW H w) : HW H w.drew := h
theorem FrR.drew (h : FrR rb H w H1 w1) : FrR rb H w H1 w1.drew := ⟨h.os, h.tape, h.output, h.size, h.le, h.new, h.old⟩
theorem HW.nil (w : World) : HW (fun _ => none) w := fun g t m e => by cases e
theorem LinkIs.fmt {va vb us : List Value} {da db : DriverD} (ha : DriverIs w va da) (hb : DriverIs w vb db) (e : va.take 3 = us) : LinkIs w (va ++ (us ++ vb.drop 3)) ⟨da, { db with port := { db.port with b := da.port.b, p := da.port.p, s := da.port.s } }⟩ := by
  refine ⟨va, us ++ vb.drop 3, rfl, ha, ?_⟩
  obtain ⟨vp, IA, OA, ni, ci, no, co, rfl, ⟨RA, SA, rn, sn, rc, sc, rfl, hg, hx⟩, hi, ho⟩ := ha
  obtain ⟨vp2, IA2, OA2, ni2, ci2, no2, co2, rfl, ⟨RA2, SA2, rn2, sn2, rc2, sc2, rfl, hg2, hx2⟩, hi2, ho2⟩ := hb
  subst e
  exact ⟨_, IA2, OA2, ni2, ci2, no2, co2, rfl, ⟨RA2, SA2, rn2, sn2, rc2, sc2, rfl, hg2, hx2⟩, hi2, ho2⟩
end
/-- A link was drawn: it stays one where an older block is written. -/
def LinkDrawn (rb : Nat) (w : World) (e : Ending) (w' : World) : Prop := ∃ vs : List Value, e = .returned (.agg vs.toArray) ∧ vs.length = 44 ∧ vs.all (·.oneCell') = true ∧ w.grownBy w' (some rb) ∧ ∀ (w2 : World) (g : Nat), g < w.heap.size → w'.grownBy w2 (some g) → ∃ d : LinkD, LinkIs w2 vs d ∧ d.small
set_option maxRecDepth 4000 in
set_option maxHeartbeats 8000000 in
theorem l92Link_any (rb p : Nat) (w : World) (h : RdU w rb p) (hp : p ≤ 1000) :
    Calls Try.prog 21 #[.pointer (some ⟨rb, 0, none⟩)] w (LinkDrawn rb w) := by
  have hlt := h.lt
  have hne : ¬ w.heap.size = rb := by omega
  go_enter Try.func21, Try.ntmps21
  go_wp2_with fail
  (with_reducible refine (pick_U rb (p) 5 _ ?_ (by omega) (by omega)).mono ?_); (exact (by repeat (first | (with_reducible refine RdU.up (by assumption) (by omega)) | (with_reducible refine Rd.up (by assumption) (by omega)) | (with_reducible refine RdU.up (RdB.u (by assumption)) (by omega)) | (with_reducible refine RdU.drew ?_) | (with_reducible refine RdU.drewN ?_ _) | (with_reducible refine RdU.alloc ?_ _) | (with_reducible refine RdU.setCell ?_ ?_ _) | (with_reducible refine RdU.below ?_ (by assumption)) | omega | (focus (simp; done)) | (focus (simp; omega))))); rintro e w1 ⟨v1, rfl, hv1, hu1, hr1, ho1⟩; have hz1 := ho1.size; (try simp at hz1); have R1 := (Blk.new w _ _).grown ho1 (by first | omega | (simp; done) | (simp; omega)); (try simp only [World.size_alloc, List.setIfInBounds_toArray, List.set_cons_zero, List.set_cons_succ] at R1); have R1l := R1.lt; (try simp only [World.size_alloc] at R1l)
  by_cases k1 : v1 = 0
  · subst k1
    go_wp2_with fail
    (with_reducible refine (l92Driver_any rb (p + 1) _ ?_ (by omega)).mono ?_); (exact (by repeat (first | (with_reducible refine RdU.up (by assumption) (by omega)) | (with_reducible refine Rd.up (by assumption) (by omega)) | (with_reducible refine RdU.up (RdB.u (by assumption)) (by omega)) | (with_reducible refine RdU.drew ?_) | (with_reducible refine RdU.drewN ?_ _) | (with_reducible refine RdU.alloc ?_ _) | (with_reducible refine RdU.setCell ?_ ?_ _) | (with_reducible refine RdU.below ?_ (by assumption)) | omega | (focus (simp; done)) | (focus (simp; omega))))); rintro e w2 ⟨va, da, rfl, on2, hs2, hr2, ho2⟩; have hz2 := ho2.size; (try simp at hz2); have R2 := Blk.liftO R1 ho2 (by repeat (first | (with_reducible exact R1) | (with_reducible refine Blk.drew ?_) | (with_reducible refine Blk.drewN ?_ _) | (with_reducible refine Blk.alloc ?_ _) | (with_reducible refine Blk.far ?_ ?_ _) | omega | (focus (simp; done)) | (focus (simp; omega)))) (by first | omega | (simp; done) | (simp; omega)); (try simp only [World.size_alloc, List.setIfInBounds_toArray, List.set_cons_zero, List.set_cons_succ] at R2); have R2l := R2.lt; (try simp only [World.size_alloc] at R2l)
    go_wp2_with fail
    (with_reducible refine (l92Driver_any rb (p + 1 + 190) _ ?_ (by omega)).mono ?_); (exact (by repeat (first | (with_reducible refine RdU.up (by assumption) (by omega)) | (with_reducible refine Rd.up (by assumption) (by omega)) | (with_reducible refine RdU.up (RdB.u (by assumption)) (by omega)) | (with_reducible refine RdU.drew ?_) | (with_reducible refine RdU.drewN ?_ _) | (with_reducible refine RdU.alloc ?_ _) | (with_reducible refine RdU.setCell ?_ ?_ _) | (with_reducible refine RdU.below ?_ (by assumption)) | omega | (focus (simp; done)) | (focus (simp; omega))))); rintro e w3 ⟨vb, db, rfl, on3, hs3, hr3, ho3⟩; have hz3 := ho3.size; (try simp at hz3); have R3 := Blk.liftO R2 ho3 (by repeat (first | (with_reducible exact R2) | (with_reducible refine Blk.drew ?_) | (with_reducible refine Blk.drewN ?_ _) | (with_reducible refine Blk.alloc ?_ _) | (with_reducible refine Blk.far ?_ ?_ _) | omega | (focus (simp; done)) | (focus (simp; omega)))) (by first | omega | (simp; done) | (simp; omega)); (try simp only [World.size_alloc, List.setIfInBounds_toArray, List.set_cons_zero, List.set_cons_succ] at R3); have R3l := R3.lt; (try simp only [World.size_alloc] at R3l)
    have la := Lib.hid on2.len
    have lb := Lib.hid on3.len
    have oL := Lib.hid (show (va ++ vb).all (·.oneCell') = true by rw [List.all_append, on2.is.one, on3.is.one]; rfl)
    obtain ⟨L, EL⟩ : ∃ L, Hid (va ++ vb = L) := ⟨_, rfl⟩
    have lL := Lib.hid (show L.length = 44 by rw [← EL.out, List.length_append, la.out, lb.out])
    rw [EL.out] at oL
    have z3 : w.heap.size < w3.heap.size := R3.lt
    have g3 : w.grownBy w3 (some rb) := only_trans (only_trans (only_trans (only_alloc (only_refl _ _) _) ho1) ho2) ho3
    have n2 := Lib.hid ((on2.only ho3 (by omega)).low (show w.heap.size + 1 ≤ _ by have := ho1.size; simp at this; omega))
    have n3 := Lib.hid (on3.low (show w.heap.size + 1 ≤ _ by have := ho1.size; have := ho2.size; simp at *; omega))
    clear on2 on3 ho1 ho2 ho3 hr1 hr2 R1 R2
    go_wp2_with (first | ((with_reducible refine at_build (.tmp 11) (.tmp 13) rfl ?_); go_must (refine wpList_buildL rfl (.tmp 11) (.tmp 13) rfl rfl rfl la.out lb.out EL.out ?_)) | ((with_reducible refine at_store 51 (.tmp 3) (.tmp 14) rfl ?_); go_must (refine wpList_storeB (g := w3.heap.size) (t := 51) (cs := #[.int .i64 0, .int .i64 0, .int .i64 0, .int .i64 0, .int .i64 0, .int .i64 0, .int .i64 0, .slice none 0 0, .bool false, .int .i64 0, .int .i64 0, .slice none 0 0, .int .i64 0, .int .i64 0, .bool false, .bool false, .bool false, .bool false, .slice none 0 0, .slice none 0 0, .int .i64 0, .int .i64 0, .int .i64 0, .int .i64 0, .int .i64 0, .int .i64 0, .int .i64 0, .int .i64 0, .int .i64 0, .slice none 0 0, .bool false, .int .i64 0, .int .i64 0, .slice none 0 0, .int .i64 0, .int .i64 0, .bool false, .bool false, .bool false, .bool false, .slice none 0 0, .slice none 0 0, .int .i64 0, .int .i64 0]) (by repeat (first | (with_reducible exact (Blk.new w3 _ _)) | (with_reducible refine Blk.drew ?_) | (with_reducible refine Blk.drewN ?_ _) | (with_reducible refine Blk.alloc ?_ _) | (with_reducible refine Blk.far ?_ ?_ _) | omega | (focus (simp; done)) | (focus (simp; omega)))) 51 (.tmp 3) (.tmp 14) rfl (by rfl) 0 rfl (L) rfl (sz_impl_Link.trans (congrArg some (Eq.symm (lL.out)))) (oL.out) (by rw [lL.out]; simp) (L) (st_all (by rw [lL.out]; rfl)) ?_; intro w4 N4 ho4; have hz4 := ho4.size; (try simp at hz4); have R4 := Blk.liftO R3 ho4 (by repeat (first | (with_reducible exact R3) | (with_reducible refine Blk.drew ?_) | (with_reducible refine Blk.drewN ?_ _) | (with_reducible refine Blk.alloc ?_ _) | (with_reducible refine Blk.far ?_ ?_ _) | omega | (focus (simp; done)) | (focus (simp; omega)))) (by first | omega | (simp; done) | (simp; omega)); (try simp only [World.size_alloc, List.setIfInBounds_toArray, List.set_cons_zero, List.set_cons_succ] at R4); have R4l := R4.lt; (try simp only [World.size_alloc] at R4l); have X4 := N4; (try simp only [World.size_alloc, List.setIfInBounds_toArray, List.set_cons_zero, List.set_cons_succ] at X4); have X4l := X4.lt; (try simp only [World.size_alloc] at X4l))))
    have m2 := (n2.out.alloc (.cells #[.int .i64 0, .int .i64 0, .int .i64 0, .int .i64 0, .int .i64 0, .int .i64 0, .int .i64 0, .slice none 0 0, .bool false, .int .i64 0, .int .i64 0, .slice none 0 0, .int .i64 0, .int .i64 0, .bool false, .bool false, .bool false, .bool false, .slice none 0 0, .slice none 0 0, .int .i64 0, .int .i64 0, .int .i64 0, .int .i64 0, .int .i64 0, .int .i64 0, .int .i64 0, .int .i64 0, .int .i64 0, .slice none 0 0, .bool false, .int .i64 0, .int .i64 0, .slice none 0 0, .int .i64 0, .int .i64 0, .bool false, .bool false, .bool false, .bool false, .slice none 0 0, .slice none 0 0, .int .i64 0, .int .i64 0] 51)).past (Blk.new w3 _ _) (by decide) (by decide) ho4
    have m3 := (n3.out.alloc (.cells #[.int .i64 0, .int .i64 0, .int .i64 0, .int .i64 0, .int .i64 0, .int .i64 0, .int .i64 0, .slice none 0 0, .bool false, .int .i64 0, .int .i64 0, .slice none 0 0, .int .i64 0, .int .i64 0, .bool false, .bool false, .bool false, .bool false, .slice none 0 0, .slice none 0 0, .int .i64 0, .int .i64 0, .int .i64 0, .int .i64 0, .int .i64 0, .int .i64 0, .int .i64 0, .int .i64 0, .int .i64 0, .slice none 0 0, .bool false, .int .i64 0, .int .i64 0, .slice none 0 0, .int .i64 0, .int .i64 0, .bool false, .bool false, .bool false, .bool false, .slice none 0 0, .slice none 0 0, .int .i64 0, .int .i64 0] 51)).past (Blk.new w3 _ _) (by decide) (by decide) ho4
    have g4 : w.grownBy w4 (some rb) := only_own (only_alloc g3 _) ho4 (fun g hg => .inr (by injection hg; omega))
    have hr4 : RdU w4 rb (p + 1 + 190 + 190) := (hr3.alloc (.cells #[.int .i64 0, .int .i64 0, .int .i64 0, .int .i64 0, .int .i64 0, .int .i64 0, .int .i64 0, .slice none 0 0, .bool false, .int .i64 0, .int .i64 0, .slice none 0 0, .int .i64 0, .int .i64 0, .bool false, .bool false, .bool false, .bool false, .slice none 0 0, .slice none 0 0, .int .i64 0, .int .i64 0, .int .i64 0, .int .i64 0, .int .i64 0, .int .i64 0, .int .i64 0, .int .i64 0, .int .i64 0, .slice none 0 0, .bool false, .int .i64 0, .int .i64 0, .slice none 0 0, .int .i64 0, .int .i64 0, .bool false, .bool false, .bool false, .bool false, .slice none 0 0, .slice none 0 0, .int .i64 0, .int .i64 0] 51)).grown ho4 (fun k hk => by injection hk with hk; have := hr3.lt; omega)
    have z4 : w3.heap.size < w4.heap.size := X4.lt
    clear n2 n3 g3 hr3 ho4 N4
    (with_reducible refine (pick_U rb (p + 1 + 190 + 190) 4 _ hr4 (by omega) (by omega)).mono ?_); rintro e w5 ⟨v5, rfl, hv5, hu5, hr5, ho5⟩
    have R5 := R4.grown ho5 (fun e => by injection e with e; omega)
    have X5 := X4.grown ho5 (fun e => by injection e with e; have := hr4.lt; have := hlt; omega)
    have m25 := Lib.hid (m2.only ho5 (by omega))
    have m35 := Lib.hid (m3.only ho5 (by omega))
    have g5 := Lib.hid (only_trans g4 ho5)
    have R5l := R5.lt
    have X5l := X5.lt
    clear m2 m3 g4 hr4 R4 X4 ho5
    by_cases k5 : 0 < v5
    · obtain ⟨us, US⟩ : ∃ us, Hid (va.take 3 = us) := ⟨_, rfl⟩
      have lu := Lib.hid (show us.length = 3 by rw [← US.out, List.length_take, la.out]; rfl)
      have ou := Lib.hid (show us.all (·.oneCell') = true by rw [← US.out]; exact List.all_eq_true.2 fun v hv => List.all_eq_true.1 m25.out.is.one v (List.mem_of_mem_take hv))
      have hu1 := Lib.hid (show (L.toArray.toList.drop 0).take us.length = us by rw [lu.out, ← US.out, ← EL.out]; simp [List.take_append_of_le_length, la.out])
      obtain ⟨L2, EL2⟩ : ∃ L2, Hid (L.toArray.toList.take 22 ++ us ++ L.toArray.toList.drop (22 + us.length) = L2) := ⟨_, rfl⟩
      have e2 := Lib.hid (show va ++ (us ++ vb.drop 3) = L2 by rw [← EL2.out, ← EL.out, lu.out]; simp [List.take_left' la.out, List.drop_append, la.out])
      have lL2 := Lib.hid (show L2.length = 44 by rw [← e2.out]; simp [la.out, lu.out, lb.out])
      have oL2 := Lib.hid (show L2.all (·.oneCell') = true by rw [← e2.out, List.all_append, List.all_append, m25.out.is.one, ou.out]; exact List.all_eq_true.2 fun v hv => List.all_eq_true.1 m35.out.is.one v (List.mem_of_mem_drop hv))
      go_wp2_with (first | ((with_reducible refine at_load 40 (.tmp 20) rfl ?_); go_must (refine wpList_loadB (by repeat (first | (with_reducible exact X5) | (with_reducible apply Blk.drew) | (with_reducible apply Blk.drewN) | (with_reducible apply Blk.alloc) | (with_reducible apply Blk.far) | omega | (focus (simp; done)) | (focus (simp; omega)))) 40 (.tmp 20) rfl (by rfl) 0 rfl (us) (hu1.out) Try.underlying40 rfl (sz_impl_Format.trans (congrArg some (Eq.symm (lu.out)))) ?_)) | ((with_reducible refine at_store 40 (.tmp 24) (.tmp 21) rfl ?_); go_must (refine wpList_storeB (Blk.now X5 (by repeat (first | (with_reducible exact X5) | (with_reducible refine Blk.drew ?_) | (with_reducible refine Blk.drewN ?_ _) | (with_reducible refine Blk.alloc ?_ _) | (with_reducible refine Blk.far ?_ ?_ _) | omega | (focus (simp; done)) | (focus (simp; omega))))) 40 (.tmp 24) (.tmp 21) rfl (by rfl) 22 rfl (us) rfl (sz_impl_Format.trans (congrArg some (Eq.symm (lu.out)))) (ou.out) ((by rw [lu.out]; simp [lL.out])) (L2) (EL2.out) ?_; intro w6 N6 ho6; have hz6 := ho6.size; (try simp at hz6); have R6 := Blk.liftO R5 ho6 (by repeat (first | (with_reducible exact R5) | (with_reducible refine Blk.drew ?_) | (with_reducible refine Blk.drewN ?_ _) | (with_reducible refine Blk.alloc ?_ _) | (with_reducible refine Blk.far ?_ ?_ _) | omega | (focus (simp; done)) | (focus (simp; omega)))) (by first | omega | (simp; done) | (simp; omega)); (try simp only [World.size_alloc, List.setIfInBounds_toArray, List.set_cons_zero, List.set_cons_succ] at R6); have R6l := R6.lt; (try simp only [World.size_alloc] at R6l); have X6 := N6; (try simp only [World.size_alloc, List.setIfInBounds_toArray, List.set_cons_zero, List.set_cons_succ] at X6); have X6l := X6.lt; (try simp only [World.size_alloc] at X6l))) | ((with_reducible refine at_load 51 (.tmp 3) rfl ?_); go_must (refine wpList_loadB (by repeat (first | (with_reducible exact X6) | (with_reducible apply Blk.drew) | (with_reducible apply Blk.drewN) | (with_reducible apply Blk.alloc) | (with_reducible apply Blk.far) | omega | (focus (simp; done)) | (focus (simp; omega)))) 51 (.tmp 3) rfl (by rfl) 0 rfl (L2) (sub_all _) Try.underlying51 rfl (sz_impl_Link.trans (congrArg some (Eq.symm (lL2.out)))) ?_)) | ((with_reducible refine at_store 51 (.tmp 2) (.tmp 25) rfl ?_); go_must (refine wpList_storeB (Blk.now R6 (by repeat (first | (with_reducible exact R6) | (with_reducible refine Blk.drew ?_) | (with_reducible refine Blk.drewN ?_ _) | (with_reducible refine Blk.alloc ?_ _) | (with_reducible refine Blk.far ?_ ?_ _) | omega | (focus (simp; done)) | (focus (simp; omega))))) 51 (.tmp 2) (.tmp 25) rfl (by rfl) 0 rfl (L2) rfl (sz_impl_Link.trans (congrArg some (Eq.symm (lL2.out)))) (oL2.out) ((by rw [lL2.out]; simp)) (L2) (st_all (by rw [lL2.out]; rfl)) ?_; intro w7 N7 ho7; have hz7 := ho7.size; (try simp at hz7))))
      have q2 := (m25.out.past X5 (by decide) (by decide) ho6).past R6 (by decide) (by decide) ho7
      have q3 := (m35.out.past X5 (by decide) (by decide) ho6).past R6 (by decide) (by decide) ho7
      have g7 := only_own (only_own g5.out ho6 (fun g hg => .inr (by injection hg; omega))) ho7 (fun g hg => .inr (by injection hg; omega))
      exact bodyPost_ret (results_blk rfl N7 _ rfl Try.underlying51 rfl (by rw [List.size_toArray, lL2.out]; exact sz_impl_Link)) rfl ⟨L2, rfl, lL2.out, oL2.out, g7, fun w2 g hg ho => ⟨_, by
        have hl := LinkIs.fmt (q2.only ho (by omega)).is (q3.only ho (by omega)).is US.out
        rw [e2.out] at hl
        exact hl, ⟨hs2, hs3⟩⟩⟩
    · go_wp2_with (first | ((with_reducible refine at_load 51 (.tmp 3) rfl ?_); go_must (refine wpList_loadB (by repeat (first | (with_reducible exact X5) | (with_reducible apply Blk.drew) | (with_reducible apply Blk.drewN) | (with_reducible apply Blk.alloc) | (with_reducible apply Blk.far) | omega | (focus (simp; done)) | (focus (simp; omega)))) 51 (.tmp 3) rfl (by rfl) 0 rfl (L) (sub_all _) Try.underlying51 rfl (sz_impl_Link.trans (congrArg some (Eq.symm (lL.out)))) ?_)) | ((with_reducible refine at_store 51 (.tmp 2) (.tmp 25) rfl ?_); go_must (refine wpList_storeB (Blk.now R5 (by repeat (first | (with_reducible exact R5) | (with_reducible refine Blk.drew ?_) | (with_reducible refine Blk.drewN ?_ _) | (with_reducible refine Blk.alloc ?_ _) | (with_reducible refine Blk.far ?_ ?_ _) | omega | (focus (simp; done)) | (focus (simp; omega))))) 51 (.tmp 2) (.tmp 25) rfl (by rfl) 0 rfl (L) rfl (sz_impl_Link.trans (congrArg some (Eq.symm (lL.out)))) (oL.out) ((by rw [lL.out]; simp)) (L) (st_all (by rw [lL.out]; rfl)) ?_; intro w7 N7 ho7; have hz7 := ho7.size; (try simp at hz7))))
      have q2 := m25.out.past R5 (by decide) (by decide) ho7
      have q3 := m35.out.past R5 (by decide) (by decide) ho7
      have g7 := only_own g5.out ho7 (fun g hg => .inr (by injection hg; omega))
      exact bodyPost_ret (results_blk rfl N7 _ rfl Try.underlying51 rfl (by rw [List.size_toArray, lL.out]; exact sz_impl_Link)) rfl ⟨L, rfl, lL.out, oL.out, g7, fun w2 g hg ho => ⟨⟨da, db⟩, ⟨va, vb, EL.out.symm, (q2.only ho (by omega)).is, (q3.only ho (by omega)).is⟩, ⟨hs2, hs3⟩⟩⟩
  · have k2 : (v1 == 0) = false := by simpa using k1
    go_wp2_with fail
    refine (l92Fresh_t rb (p + 1) (fun _ => none) w1 hr1 (by omega) (HW.nil w1) (fun _ _ => rfl)).mono ?_
    rintro e w2 ⟨va, H2, rfl, ca, hW2, hr2, fr2⟩
    have R2 := R1.frR fr2 rfl hne
    have nR2 := Lib.hid (fr2.none_ rfl R1.lt : H2 w.heap.size = none)
    have low2 : ∀ g, g ≤ rb → H2 g = none := fun g hg => fr2.none_ rfl (by have := hr1.lt; omega)
    have f1 := Lib.hid (((FrR.refl rb (fun _ => none) w).alloc _).only ho1 : FrR rb (fun _ => none) w (fun _ => none) w1)
    have L2 := Lib.hid low2
    clear low2 R1 ho1 hr1
    go_wp2_with fail
    refine (l92Fresh_t rb (p + 1 + 16) H2 w2 hr2 (by omega) hW2 L2.out).mono ?_
    rintro e w3 ⟨vb, H3, rfl, cb, hW3, hr3, fr3⟩
    have R3 := R2.frR fr3 nR2.out hne
    have nR3 := Lib.hid (fr3.none_ nR2.out R2.lt : H3 w.heap.size = none)
    have low3 := Lib.hid (show ∀ g, g ≤ rb → H3 g = none from fun g hg => fr3.none_ (L2.out g hg) (by have := hr2.lt; omega))
    have f3 := Lib.hid (FrR.trans f1.out (FrR.trans fr2 fr3))
    have cL := Lib.hid ((ca.up fr3.le).app cb : CsOk H3 linkC (va ++ vb))
    have la := Lib.hid (show va.length = 22 from ca.len)
    have lb := Lib.hid (show vb.length = 22 from cb.len)
    obtain ⟨L, EL⟩ : ∃ L, Hid (va ++ vb = L) := ⟨_, rfl⟩
    rw [EL.out] at cL
    have lL := Lib.hid (show L.length = 44 from cL.out.len)
    have oL := Lib.hid (show L.all (·.oneCell') = true from List.all_eq_true.2 fun v hv => CsOk.one cL.out v hv)
    have z3 : w.heap.size < w3.heap.size := R3.lt
    have hW3' := Lib.hid hW3
    have hr3l := hr3.lt
    clear ca cb fr2 fr3 R2 nR2 L2 hW2 hr2 hW3
    go_wp2_with (first | ((with_reducible refine at_build (.tmp 27) (.tmp 29) rfl ?_); go_must (refine wpList_buildL rfl (.tmp 27) (.tmp 29) rfl rfl rfl la.out lb.out EL.out ?_)) | ((with_reducible refine at_store 51 (.tmp 4) (.tmp 30) rfl ?_); go_must (refine wpList_storeB (g := w3.heap.size) (t := 51) (cs := #[.int .i64 0, .int .i64 0, .int .i64 0, .int .i64 0, .int .i64 0, .int .i64 0, .int .i64 0, .slice none 0 0, .bool false, .int .i64 0, .int .i64 0, .slice none 0 0, .int .i64 0, .int .i64 0, .bool false, .bool false, .bool false, .bool false, .slice none 0 0, .slice none 0 0, .int .i64 0, .int .i64 0, .int .i64 0, .int .i64 0, .int .i64 0, .int .i64 0, .int .i64 0, .int .i64 0, .int .i64 0, .slice none 0 0, .bool false, .int .i64 0, .int .i64 0, .slice none 0 0, .int .i64 0, .int .i64 0, .bool false, .bool false, .bool false, .bool false, .slice none 0 0, .slice none 0 0, .int .i64 0, .int .i64 0]) (by repeat (first | (with_reducible exact (Blk.new w3 _ _)) | (with_reducible refine Blk.drew ?_) | (with_reducible refine Blk.drewN ?_ _) | (with_reducible refine Blk.alloc ?_ _) | (with_reducible refine Blk.far ?_ ?_ _) | omega | (focus (simp; done)) | (focus (simp; omega)))) 51 (.tmp 4) (.tmp 30) rfl (by rfl) 0 rfl (L) rfl (sz_impl_Link.trans (congrArg some (Eq.symm (lL.out)))) (oL.out) (by rw [lL.out]; simp) (L) (st_all (by rw [lL.out]; rfl)) ?_; intro w4 N4 ho4; have hz4 := ho4.size; (try simp at hz4); have R4 := Blk.liftO R3 ho4 (by repeat (first | (with_reducible exact R3) | (with_reducible refine Blk.drew ?_) | (with_reducible refine Blk.drewN ?_ _) | (with_reducible refine Blk.alloc ?_ _) | (with_reducible refine Blk.far ?_ ?_ _) | omega | (focus (simp; done)) | (focus (simp; omega)))) (by first | omega | (simp; done) | (simp; omega)); (try simp only [World.size_alloc, List.setIfInBounds_toArray, List.set_cons_zero, List.set_cons_succ] at R4); have R4l := R4.lt; (try simp only [World.size_alloc] at R4l); have X4 := N4; (try simp only [World.size_alloc, List.setIfInBounds_toArray, List.set_cons_zero, List.set_cons_succ] at X4); have X4l := X4.lt; (try simp only [World.size_alloc] at X4l))))
    have hW4 : HW H3 w4 := (hW3'.out.alloc _).only ho4 hW3'.out.new_none
    have nX4 := Lib.hid (hW3'.out.new_none)
    have f4 := Lib.hid ((f3.out.alloc (.cells #[.int .i64 0, .int .i64 0, .int .i64 0, .int .i64 0, .int .i64 0, .int .i64 0, .int .i64 0, .slice none 0 0, .bool false, .int .i64 0, .int .i64 0, .slice none 0 0, .int .i64 0, .int .i64 0, .bool false, .bool false, .bool false, .bool false, .slice none 0 0, .slice none 0 0, .int .i64 0, .int .i64 0, .int .i64 0, .int .i64 0, .int .i64 0, .int .i64 0, .int .i64 0, .int .i64 0, .int .i64 0, .slice none 0 0, .bool false, .int .i64 0, .int .i64 0, .slice none 0 0, .int .i64 0, .int .i64 0, .bool false, .bool false, .bool false, .bool false, .slice none 0 0, .slice none 0 0, .int .i64 0, .int .i64 0] 51)).mine ho4 f3.out.size)
    have hr4 : RdU w4 rb (p + 1 + 16 + 16) := (hr3.alloc (.cells #[.int .i64 0, .int .i64 0, .int .i64 0, .int .i64 0, .int .i64 0, .int .i64 0, .int .i64 0, .slice none 0 0, .bool false, .int .i64 0, .int .i64 0, .slice none 0 0, .int .i64 0, .int .i64 0, .bool false, .bool false, .bool false, .bool false, .slice none 0 0, .slice none 0 0, .int .i64 0, .int .i64 0, .int .i64 0, .int .i64 0, .int .i64 0, .int .i64 0, .int .i64 0, .int .i64 0, .int .i64 0, .slice none 0 0, .bool false, .int .i64 0, .int .i64 0, .slice none 0 0, .int .i64 0, .int .i64 0, .bool false, .bool false, .bool false, .bool false, .slice none 0 0, .slice none 0 0, .int .i64 0, .int .i64 0] 51)).grown ho4 (fun k hk => by injection hk with hk; omega)
    have z4 : w3.heap.size < w4.heap.size := X4.lt
    have hW4' := Lib.hid hW4
    clear hW3' f3 hr3 ho4 N4 R3 hW4
    refine wp_region_held_drew (S := fun W => Blk W w3.heap.size 51 L.toArray) (by kernel_rfl) (Blk.drew X4) (fun hHeld => ?_)
    refine wpAnyH_takeD (i := 0) (d := some 32) rfl rfl (by kernel_rfl) (by kernel_rfl) (by kernel_rfl) (fun _ _ _ h => h) (yieldsIf_load_mid (by rfl) 51 (.tmp 4) rfl (w3.heap.size) 0 rfl L _ (fun W hSw => Blk.range hSw 0 (sub_all L)) Try.underlying51 rfl (sz_impl_Link.trans (congrArg some lL.out.symm))) (by assumption) ?_
    (try simp only [Act.put, List.setIfInBounds_toArray, List.set_cons_zero, List.set_cons_succ])
    refine wpAnyH_takeD (i := 1) (v := ?_) (d := some 33) rfl rfl (by kernel_rfl) (by kernel_rfl) (by kernel_rfl) (fun _ _ _ h => h) (Or.inl ⟨by rfl, ?_⟩) (by assumption) ?_
    rotate_left 1
    · (intro W hSw; first | (go_simp; done) | (go_simp; with_reducible rfl))
    (try simp only [Act.put, List.setIfInBounds_toArray, List.set_cons_zero, List.set_cons_succ])
    refine wpAnyH_ready (rs := [2, 7]) (by kernel_rfl) (by simp) ?_
    refine AllReadyH.cons rfl (fun K hK => ?_) (AllReadyH.cons rfl (fun K hK => ?_) AllReadyH.nil)
    · go_simp
      (with_reducible refine (pick_U rb (p + 1 + 16 + 16) 20 _ (RdU.drew hr4) (by omega) (by omega)).mono ?_); rintro e w6 ⟨v6, rfl, hv6, hu6, hr6, ho6⟩
      have z6 := ho6.size
      (try simp at z6)
      have X6 := (Blk.drew X4).grown ho6 (fun e => by injection e with e; omega)
      have R6 := (Blk.drew R4).grown ho6 (fun e => by injection e with e; omega)
      have hW6 : HW H3 w6 := HW.only (show HW H3 w4.drew from hW4'.out) ho6 (low3.out rb (Nat.le_refl _))
      have f6 := Lib.hid (FrR.only (FrR.drew f4.out) ho6)
      have hW6 := Lib.hid hW6
      clear ho6
      go_wp2
      refine hK.out _ _ X6 (fun hHeld2 => ?_)
      clear hHeld hK K
      rename _ => hHeld
      (try simp only [Act.put, List.setIfInBounds_toArray, List.set_cons_zero, List.set_cons_succ])
      refine wpAnyH_ready (rs := [3, 7]) (by kernel_rfl) (by simp) ?_
      refine AllReadyH.cons rfl (fun K hK => ?_) (AllReadyH.cons rfl (fun K hK => ?_) AllReadyH.nil)
      · go_simp
        refine (con_LinkRun.use hW6.out (vs := [_, _]) ⟨⟨L, rfl, cL.out⟩, ⟨⟨v6, rfl, by omega, by omega⟩, trivial⟩, trivial⟩).mono ?_
        rintro e w7 ⟨v7, H7, rfl, ⟨us, rfl, hu⟩, hW7, f7⟩
        obtain ⟨_, _, rfl, ⟨u, rfl, hu7⟩, ⟨⟨ok, rfl⟩, _⟩⟩ := ts2 hu
        have z7 := f7.size
        (try simp at z7)
        have X7 := X6.fr f7 nX4.out
        have R7 := R6.fr f7 nR3.out
        have nR7 := Lib.hid (f7.none_ nR3.out R6.lt)
        have fL := Lib.hid (FrX.trans f6.out f7)
        have lu := Lib.hid (show u.length = 44 from hu7.len)
        have ou := Lib.hid (show u.all (·.oneCell') = true from List.all_eq_true.2 fun v hv => CsOk.one hu7 v hv)
        have hu7 := Lib.hid hu7
        have hW7 := Lib.hid hW7
        clear hu f7
        go_wp2
        refine hK.out _ _ X7 (fun hHeld2 => ?_)
        clear hHeld hK K
        rename _ => hHeld
        (try simp only [Act.put, List.setIfInBounds_toArray, List.set_cons_zero, List.set_cons_succ])
        refine wpAnyH_takeD (i := 4) (v := ?_) (d := some 31) rfl rfl (by kernel_rfl) (by kernel_rfl) (by kernel_rfl) (fun _ _ _ h => h) (Or.inl ⟨by rfl, ?_⟩) (by assumption) ?_
        rotate_left 1
        · (intro W hSw; first | (go_simp; done) | (go_simp; with_reducible rfl))
        (try simp only [Act.put, List.setIfInBounds_toArray, List.set_cons_zero, List.set_cons_succ])
        refine wpAnyH_takeD (i := 5) (v := ?_) (d := some 36) rfl rfl (by kernel_rfl) (by kernel_rfl) (by kernel_rfl) (fun _ _ _ h => h) (Or.inl ⟨by rfl, ?_⟩) (by assumption) ?_
        rotate_left 1
        · (intro W hSw; first | (go_simp; done) | (go_simp; with_reducible rfl))
        (try simp only [Act.put, List.setIfInBounds_toArray, List.set_cons_zero, List.set_cons_succ])
        refine wpAnyH_takeD (i := 6) (v := ?_) (d := some 37) rfl rfl (by kernel_rfl) (by kernel_rfl) (by kernel_rfl) (fun _ _ _ h => h) (Or.inl ⟨by rfl, ?_⟩) (by assumption) ?_
        rotate_left 1
        · (intro W hSw; first | (go_simp; done) | (go_simp; with_reducible rfl))
        (try simp only [Act.put, List.setIfInBounds_toArray, List.set_cons_zero, List.set_cons_succ])
        refine wpAnyH_ready (rs := [7]) (by kernel_rfl) (by simp) ?_
        refine AllReadyH.cons rfl (fun K hK => ?_) AllReadyH.nil
        go_simp
        have T8 := Blk.new w7 51 #[.int .i64 0, .int .i64 0, .int .i64 0, .int .i64 0, .int .i64 0, .int .i64 0, .int .i64 0, .slice none 0 0, .bool false, .int .i64 0, .int .i64 0, .slice none 0 0, .int .i64 0, .int .i64 0, .bool false, .bool false, .bool false, .bool false, .slice none 0 0, .slice none 0 0, .int .i64 0, .int .i64 0, .int .i64 0, .int .i64 0, .int .i64 0, .int .i64 0, .int .i64 0, .int .i64 0, .int .i64 0, .slice none 0 0, .bool false, .int .i64 0, .int .i64 0, .slice none 0 0, .int .i64 0, .int .i64 0, .bool false, .bool false, .bool false, .bool false, .slice none 0 0, .slice none 0 0, .int .i64 0, .int .i64 0]
        have X8 := X7.alloc (.cells #[.int .i64 0, .int .i64 0, .int .i64 0, .int .i64 0, .int .i64 0, .int .i64 0, .int .i64 0, .slice none 0 0, .bool false, .int .i64 0, .int .i64 0, .slice none 0 0, .int .i64 0, .int .i64 0, .bool false, .bool false, .bool false, .bool false, .slice none 0 0, .slice none 0 0, .int .i64 0, .int .i64 0, .int .i64 0, .int .i64 0, .int .i64 0, .int .i64 0, .int .i64 0, .int .i64 0, .int .i64 0, .slice none 0 0, .bool false, .int .i64 0, .int .i64 0, .slice none 0 0, .int .i64 0, .int .i64 0, .bool false, .bool false, .bool false, .bool false, .slice none 0 0, .slice none 0 0, .int .i64 0, .int .i64 0] 51)
        have R8 := R7.alloc (.cells #[.int .i64 0, .int .i64 0, .int .i64 0, .int .i64 0, .int .i64 0, .int .i64 0, .int .i64 0, .slice none 0 0, .bool false, .int .i64 0, .int .i64 0, .slice none 0 0, .int .i64 0, .int .i64 0, .bool false, .bool false, .bool false, .bool false, .slice none 0 0, .slice none 0 0, .int .i64 0, .int .i64 0, .int .i64 0, .int .i64 0, .int .i64 0, .int .i64 0, .int .i64 0, .int .i64 0, .int .i64 0, .slice none 0 0, .bool false, .int .i64 0, .int .i64 0, .slice none 0 0, .int .i64 0, .int .i64 0, .bool false, .bool false, .bool false, .bool false, .slice none 0 0, .slice none 0 0, .int .i64 0, .int .i64 0] 51)
        have nT := Lib.hid (HW.new_none hW7.out)
        have hW8 := Lib.hid (HW.alloc hW7.out (.cells #[.int .i64 0, .int .i64 0, .int .i64 0, .int .i64 0, .int .i64 0, .int .i64 0, .int .i64 0, .slice none 0 0, .bool false, .int .i64 0, .int .i64 0, .slice none 0 0, .int .i64 0, .int .i64 0, .bool false, .bool false, .bool false, .bool false, .slice none 0 0, .slice none 0 0, .int .i64 0, .int .i64 0, .int .i64 0, .int .i64 0, .int .i64 0, .int .i64 0, .int .i64 0, .int .i64 0, .int .i64 0, .slice none 0 0, .bool false, .int .i64 0, .int .i64 0, .slice none 0 0, .int .i64 0, .int .i64 0, .bool false, .bool false, .bool false, .bool false, .slice none 0 0, .slice none 0 0, .int .i64 0, .int .i64 0] 51))
        have f8 := Lib.hid (FrR.alloc fL.out (.cells #[.int .i64 0, .int .i64 0, .int .i64 0, .int .i64 0, .int .i64 0, .int .i64 0, .int .i64 0, .slice none 0 0, .bool false, .int .i64 0, .int .i64 0, .slice none 0 0, .int .i64 0, .int .i64 0, .bool false, .bool false, .bool false, .bool false, .slice none 0 0, .slice none 0 0, .int .i64 0, .int .i64 0, .int .i64 0, .int .i64 0, .int .i64 0, .int .i64 0, .int .i64 0, .int .i64 0, .int .i64 0, .slice none 0 0, .bool false, .int .i64 0, .int .i64 0, .slice none 0 0, .int .i64 0, .int .i64 0, .bool false, .bool false, .bool false, .bool false, .slice none 0 0, .slice none 0 0, .int .i64 0, .int .i64 0] 51))
        refine hK.out _ _ X8 (fun hHeld2 => ?_)
        clear hHeld hK K
        rename _ => hHeld
        (try simp only [Act.put, List.setIfInBounds_toArray, List.set_cons_zero, List.set_cons_succ])
        refine wpAnyH_ready (rs := [8]) (by kernel_rfl) (by simp) ?_
        refine AllReadyH.cons rfl (fun K hK => ?_) AllReadyH.nil
        refine step_storeL T8 51 (.tmp 5) (.tmp 36) rfl (by first | rfl | kernel_rfl) 0 rfl u rfl (sz_impl_Link.trans (congrArg some lu.out.symm)) ou.out (by rw [lu.out]; simp) u (st_all (by rw [lu.out]; rfl)) ?_
        intro w9 T9 ho9
        have X9 := X8.grown ho9 (fun e => by injection e with e; omega)
        have R9 := R8.grown ho9 (fun e => by injection e with e; omega)
        have hW9 := Lib.hid (HW.only hW8.out ho9 nT.out)
        have f9 := Lib.hid (FrR.mine f8.out ho9 (by omega))
        clear ho9
        refine hK.out _ _ X9 (fun hHeld2 => ?_)
        clear hHeld hK K
        rename _ => hHeld
        (try simp only [Act.put, List.setIfInBounds_toArray, List.set_cons_zero, List.set_cons_succ])
        refine wpAnyH_takeD (i := 9) (v := ?_) (d := some 6) rfl rfl (by kernel_rfl) (by kernel_rfl) (by kernel_rfl) (fun _ _ _ h => h) (Or.inl ⟨by rfl, ?_⟩) (by assumption) ?_
        rotate_left 1
        · (intro W hSw; first | (go_simp; done) | (go_simp; with_reducible rfl))
        (try simp only [Act.put, List.setIfInBounds_toArray, List.set_cons_zero, List.set_cons_succ])
        refine wpAnyH_done (by kernel_rfl) ?_ _
        go_wp2_with (first | ((with_reducible refine at_load 51 (.tmp 5) rfl ?_); go_must (refine wpList_loadB (by repeat (first | (with_reducible exact T9) | (with_reducible apply Blk.drew) | (with_reducible apply Blk.drewN) | (with_reducible apply Blk.alloc) | (with_reducible apply Blk.far) | omega | (focus (simp; done)) | (focus (simp; omega)))) 51 (.tmp 5) rfl (by rfl) 0 rfl (u) (sub_all _) Try.underlying51 rfl (sz_impl_Link.trans (congrArg some (Eq.symm (lu.out)))) ?_)) | ((with_reducible refine at_store 51 (.tmp 2) (.tmp 38) rfl ?_); go_must (refine wpList_storeB (Blk.now R9 (by repeat (first | (with_reducible exact R9) | (with_reducible refine Blk.drew ?_) | (with_reducible refine Blk.drewN ?_ _) | (with_reducible refine Blk.alloc ?_ _) | (with_reducible refine Blk.far ?_ ?_ _) | omega | (focus (simp; done)) | (focus (simp; omega))))) 51 (.tmp 2) (.tmp 38) rfl (by rfl) 0 rfl (u) rfl (sz_impl_Link.trans (congrArg some (Eq.symm (lu.out)))) (ou.out) ((by rw [lu.out]; simp)) (u) (st_all (by rw [lu.out]; rfl)) ?_; intro w10 N10 ho10; have hz10 := ho10.size; (try simp at hz10))))
        have f10 := FrR.mine f9.out ho10 (Nat.le_refl _)
        exact bodyPost_ret (results_blk rfl N10 _ rfl Try.underlying51 rfl (by rw [List.size_toArray, lu.out]; exact sz_impl_Link)) rfl ⟨u, rfl, lu.out, ou.out, f10.grown, fun w2 g hg ho => link_is hu7.out (HW.only (HW.only hW9.out ho10 nR7.out) ho (f10.none_ rfl hg))⟩
      · go_simp
        have T8 := Blk.new w6 51 #[.int .i64 0, .int .i64 0, .int .i64 0, .int .i64 0, .int .i64 0, .int .i64 0, .int .i64 0, .slice none 0 0, .bool false, .int .i64 0, .int .i64 0, .slice none 0 0, .int .i64 0, .int .i64 0, .bool false, .bool false, .bool false, .bool false, .slice none 0 0, .slice none 0 0, .int .i64 0, .int .i64 0, .int .i64 0, .int .i64 0, .int .i64 0, .int .i64 0, .int .i64 0, .int .i64 0, .int .i64 0, .slice none 0 0, .bool false, .int .i64 0, .int .i64 0, .slice none 0 0, .int .i64 0, .int .i64 0, .bool false, .bool false, .bool false, .bool false, .slice none 0 0, .slice none 0 0, .int .i64 0, .int .i64 0]
        have X8 := X6.alloc (.cells #[.int .i64 0, .int .i64 0, .int .i64 0, .int .i64 0, .int .i64 0, .int .i64 0, .int .i64 0, .slice none 0 0, .bool false, .int .i64 0, .int .i64 0, .slice none 0 0, .int .i64 0, .int .i64 0, .bool false, .bool false, .bool false, .bool false, .slice none 0 0, .slice none 0 0, .int .i64 0, .int .i64 0, .int .i64 0, .int .i64 0, .int .i64 0, .int .i64 0, .int .i64 0, .int .i64 0, .int .i64 0, .slice none 0 0, .bool false, .int .i64 0, .int .i64 0, .slice none 0 0, .int .i64 0, .int .i64 0, .bool false, .bool false, .bool false, .bool false, .slice none 0 0, .slice none 0 0, .int .i64 0, .int .i64 0] 51)
        have R8 := R6.alloc (.cells #[.int .i64 0, .int .i64 0, .int .i64 0, .int .i64 0, .int .i64 0, .int .i64 0, .int .i64 0, .slice none 0 0, .bool false, .int .i64 0, .int .i64 0, .slice none 0 0, .int .i64 0, .int .i64 0, .bool false, .bool false, .bool false, .bool false, .slice none 0 0, .slice none 0 0, .int .i64 0, .int .i64 0, .int .i64 0, .int .i64 0, .int .i64 0, .int .i64 0, .int .i64 0, .int .i64 0, .int .i64 0, .slice none 0 0, .bool false, .int .i64 0, .int .i64 0, .slice none 0 0, .int .i64 0, .int .i64 0, .bool false, .bool false, .bool false, .bool false, .slice none 0 0, .slice none 0 0, .int .i64 0, .int .i64 0] 51)
        have nT := Lib.hid (HW.new_none hW6.out)
        have hW8 := Lib.hid (HW.alloc hW6.out (.cells #[.int .i64 0, .int .i64 0, .int .i64 0, .int .i64 0, .int .i64 0, .int .i64 0, .int .i64 0, .slice none 0 0, .bool false, .int .i64 0, .int .i64 0, .slice none 0 0, .int .i64 0, .int .i64 0, .bool false, .bool false, .bool false, .bool false, .slice none 0 0, .slice none 0 0, .int .i64 0, .int .i64 0, .int .i64 0, .int .i64 0, .int .i64 0, .int .i64 0, .int .i64 0, .int .i64 0, .int .i64 0, .slice none 0 0, .bool false, .int .i64 0, .int .i64 0, .slice none 0 0, .int .i64 0, .int .i64 0, .bool false, .bool false, .bool false, .bool false, .slice none 0 0, .slice none 0 0, .int .i64 0, .int .i64 0] 51))
        have f8 := Lib.hid (FrR.alloc f6.out (.cells #[.int .i64 0, .int .i64 0, .int .i64 0, .int .i64 0, .int .i64 0, .int .i64 0, .int .i64 0, .slice none 0 0, .bool false, .int .i64 0, .int .i64 0, .slice none 0 0, .int .i64 0, .int .i64 0, .bool false, .bool false, .bool false, .bool false, .slice none 0 0, .slice none 0 0, .int .i64 0, .int .i64 0, .int .i64 0, .int .i64 0, .int .i64 0, .int .i64 0, .int .i64 0, .int .i64 0, .int .i64 0, .slice none 0 0, .bool false, .int .i64 0, .int .i64 0, .slice none 0 0, .int .i64 0, .int .i64 0, .bool false, .bool false, .bool false, .bool false, .slice none 0 0, .slice none 0 0, .int .i64 0, .int .i64 0] 51))
        refine hK.out _ _ X8 (fun hHeld2 => ?_)
        clear hHeld hK K
        rename _ => hHeld
        (try simp only [Act.put, List.setIfInBounds_toArray, List.set_cons_zero, List.set_cons_succ])
        refine wpAnyH_ready (rs := [3]) (by kernel_rfl) (by simp) ?_
        refine AllReadyH.cons rfl (fun K hK => ?_) AllReadyH.nil
        go_simp
        refine (con_LinkRun.use hW8.out (vs := [_, _]) ⟨⟨L, rfl, cL.out⟩, ⟨⟨v6, rfl, by omega, by omega⟩, trivial⟩, trivial⟩).mono ?_
        rintro e w7 ⟨v7, H7, rfl, ⟨us, rfl, hu⟩, hW7, f7⟩
        obtain ⟨_, _, rfl, ⟨u, rfl, hu7⟩, ⟨⟨ok, rfl⟩, _⟩⟩ := ts2 hu
        have z7 := f7.size
        (try simp at z7)
        have X7 := X8.fr f7 nX4.out
        have R7 := R8.fr f7 nR3.out
        have nR7 := Lib.hid (f7.none_ nR3.out R8.lt)
        have fL := Lib.hid (FrX.trans f8.out f7)
        have T7 := T8.fr f7 nT.out
        have nT7 := Lib.hid (f7.none_ nT.out T8.lt)
        have lu := Lib.hid (show u.length = 44 from hu7.len)
        have ou := Lib.hid (show u.all (·.oneCell') = true from List.all_eq_true.2 fun v hv => CsOk.one hu7 v hv)
        have hu7 := Lib.hid hu7
        have hW7 := Lib.hid hW7
        clear hu f7
        go_wp2
        refine hK.out _ _ X7 (fun hHeld2 => ?_)
        clear hHeld hK K
        rename _ => hHeld
        (try simp only [Act.put, List.setIfInBounds_toArray, List.set_cons_zero, List.set_cons_succ])
        refine wpAnyH_takeD (i := 4) (v := ?_) (d := some 31) rfl rfl (by kernel_rfl) (by kernel_rfl) (by kernel_rfl) (fun _ _ _ h => h) (Or.inl ⟨by rfl, ?_⟩) (by assumption) ?_
        rotate_left 1
        · (intro W hSw; first | (go_simp; done) | (go_simp; with_reducible rfl))
        (try simp only [Act.put, List.setIfInBounds_toArray, List.set_cons_zero, List.set_cons_succ])
        refine wpAnyH_takeD (i := 5) (v := ?_) (d := some 36) rfl rfl (by kernel_rfl) (by kernel_rfl) (by kernel_rfl) (fun _ _ _ h => h) (Or.inl ⟨by rfl, ?_⟩) (by assumption) ?_
        rotate_left 1
        · (intro W hSw; first | (go_simp; done) | (go_simp; with_reducible rfl))
        (try simp only [Act.put, List.setIfInBounds_toArray, List.set_cons_zero, List.set_cons_succ])
        refine wpAnyH_takeD (i := 6) (v := ?_) (d := some 37) rfl rfl (by kernel_rfl) (by kernel_rfl) (by kernel_rfl) (fun _ _ _ h => h) (Or.inl ⟨by rfl, ?_⟩) (by assumption) ?_
        rotate_left 1
        · (intro W hSw; first | (go_simp; done) | (go_simp; with_reducible rfl))
        (try simp only [Act.put, List.setIfInBounds_toArray, List.set_cons_zero, List.set_cons_succ])
        refine wpAnyH_ready (rs := [8]) (by kernel_rfl) (by simp) ?_
        refine AllReadyH.cons rfl (fun K hK => ?_) AllReadyH.nil
        refine step_storeL T7 51 (.tmp 5) (.tmp 36) rfl (by first | rfl | kernel_rfl) 0 rfl u rfl (sz_impl_Link.trans (congrArg some lu.out.symm)) ou.out (by rw [lu.out]; simp) u (st_all (by rw [lu.out]; rfl)) ?_
        intro w9 T9 ho9
        have X9 := X7.grown ho9 (fun e => by injection e with e; omega)
        have R9 := R7.grown ho9 (fun e => by injection e with e; omega)
        have hW9 := Lib.hid (HW.only hW7.out ho9 nT7.out)
        have f9 := Lib.hid (FrR.mine fL.out ho9 (by omega))
        clear ho9
        refine hK.out _ _ X9 (fun hHeld2 => ?_)
        clear hHeld hK K
        rename _ => hHeld
        (try simp only [Act.put, List.setIfInBounds_toArray, List.set_cons_zero, List.set_cons_succ])
        refine wpAnyH_takeD (i := 9) (v := ?_) (d := some 6) rfl rfl (by kernel_rfl) (by kernel_rfl) (by kernel_rfl) (fun _ _ _ h => h) (Or.inl ⟨by rfl, ?_⟩) (by assumption) ?_
        rotate_left 1
        · (intro W hSw; first | (go_simp; done) | (go_simp; with_reducible rfl))
        (try simp only [Act.put, List.setIfInBounds_toArray, List.set_cons_zero, List.set_cons_succ])
        refine wpAnyH_done (by kernel_rfl) ?_ _
        go_wp2_with (first | ((with_reducible refine at_load 51 (.tmp 5) rfl ?_); go_must (refine wpList_loadB (by repeat (first | (with_reducible exact T9) | (with_reducible apply Blk.drew) | (with_reducible apply Blk.drewN) | (with_reducible apply Blk.alloc) | (with_reducible apply Blk.far) | omega | (focus (simp; done)) | (focus (simp; omega)))) 51 (.tmp 5) rfl (by rfl) 0 rfl (u) (sub_all _) Try.underlying51 rfl (sz_impl_Link.trans (congrArg some (Eq.symm (lu.out)))) ?_)) | ((with_reducible refine at_store 51 (.tmp 2) (.tmp 38) rfl ?_); go_must (refine wpList_storeB (Blk.now R9 (by repeat (first | (with_reducible exact R9) | (with_reducible refine Blk.drew ?_) | (with_reducible refine Blk.drewN ?_ _) | (with_reducible refine Blk.alloc ?_ _) | (with_reducible refine Blk.far ?_ ?_ _) | omega | (focus (simp; done)) | (focus (simp; omega))))) 51 (.tmp 2) (.tmp 38) rfl (by rfl) 0 rfl (u) rfl (sz_impl_Link.trans (congrArg some (Eq.symm (lu.out)))) (ou.out) ((by rw [lu.out]; simp)) (u) (st_all (by rw [lu.out]; rfl)) ?_; intro w10 N10 ho10; have hz10 := ho10.size; (try simp at hz10))))
        have f10 := FrR.mine f9.out ho10 (Nat.le_refl _)
        exact bodyPost_ret (results_blk rfl N10 _ rfl Try.underlying51 rfl (by rw [List.size_toArray, lu.out]; exact sz_impl_Link)) rfl ⟨u, rfl, lu.out, ou.out, f10.grown, fun w2 g hg ho => link_is hu7.out (HW.only (HW.only hW9.out ho10 nR7.out) ho (f10.none_ rfl hg))⟩
    · go_simp
      have T8 := Blk.new w4 51 #[.int .i64 0, .int .i64 0, .int .i64 0, .int .i64 0, .int .i64 0, .int .i64 0, .int .i64 0, .slice none 0 0, .bool false, .int .i64 0, .int .i64 0, .slice none 0 0, .int .i64 0, .int .i64 0, .bool false, .bool false, .bool false, .bool false, .slice none 0 0, .slice none 0 0, .int .i64 0, .int .i64 0, .int .i64 0, .int .i64 0, .int .i64 0, .int .i64 0, .int .i64 0, .int .i64 0, .int .i64 0, .slice none 0 0, .bool false, .int .i64 0, .int .i64 0, .slice none 0 0, .int .i64 0, .int .i64 0, .bool false, .bool false, .bool false, .bool false, .slice none 0 0, .slice none 0 0, .int .i64 0, .int .i64 0]
      have X8 := X4.alloc (.cells #[.int .i64 0, .int .i64 0, .int .i64 0, .int .i64 0, .int .i64 0, .int .i64 0, .int .i64 0, .slice none 0 0, .bool false, .int .i64 0, .int .i64 0, .slice none 0 0, .int .i64 0, .int .i64 0, .bool false, .bool false, .bool false, .bool false, .slice none 0 0, .slice none 0 0, .int .i64 0, .int .i64 0, .int .i64 0, .int .i64 0, .int .i64 0, .int .i64 0, .int .i64 0, .int .i64 0, .int .i64 0, .slice none 0 0, .bool false, .int .i64 0, .int .i64 0, .slice none 0 0, .int .i64 0, .int .i64 0, .bool false, .bool false, .bool false, .bool false, .slice none 0 0, .slice none 0 0, .int .i64 0, .int .i64 0] 51)
      have R8 := R4.alloc (.cells #[.int .i64 0, .int .i64 0, .int .i64 0, .int .i64 0, .int .i64 0, .int .i64 0, .int .i64 0, .slice none 0 0, .bool false, .int .i64 0, .int .i64 0, .slice none 0 0, .int .i64 0, .int .i64 0, .bool false, .bool false, .bool false, .bool false, .slice none 0 0, .slice none 0 0, .int .i64 0, .int .i64 0, .int .i64 0, .int .i64 0, .int .i64 0, .int .i64 0, .int .i64 0, .int .i64 0, .int .i64 0, .slice none 0 0, .bool false, .int .i64 0, .int .i64 0, .slice none 0 0, .int .i64 0, .int .i64 0, .bool false, .bool false, .bool false, .bool false, .slice none 0 0, .slice none 0 0, .int .i64 0, .int .i64 0] 51)
      have nT := Lib.hid (HW.new_none (show HW H3 w4 from hW4'.out))
      have hW8 := Lib.hid (HW.alloc (show HW H3 w4 from hW4'.out) (.cells #[.int .i64 0, .int .i64 0, .int .i64 0, .int .i64 0, .int .i64 0, .int .i64 0, .int .i64 0, .slice none 0 0, .bool false, .int .i64 0, .int .i64 0, .slice none 0 0, .int .i64 0, .int .i64 0, .bool false, .bool false, .bool false, .bool false, .slice none 0 0, .slice none 0 0, .int .i64 0, .int .i64 0, .int .i64 0, .int .i64 0, .int .i64 0, .int .i64 0, .int .i64 0, .int .i64 0, .int .i64 0, .slice none 0 0, .bool false, .int .i64 0, .int .i64 0, .slice none 0 0, .int .i64 0, .int .i64 0, .bool false, .bool false, .bool false, .bool false, .slice none 0 0, .slice none 0 0, .int .i64 0, .int .i64 0] 51))
      have f8 := Lib.hid (FrR.alloc f4.out (.cells #[.int .i64 0, .int .i64 0, .int .i64 0, .int .i64 0, .int .i64 0, .int .i64 0, .int .i64 0, .slice none 0 0, .bool false, .int .i64 0, .int .i64 0, .slice none 0 0, .int .i64 0, .int .i64 0, .bool false, .bool false, .bool false, .bool false, .slice none 0 0, .slice none 0 0, .int .i64 0, .int .i64 0, .int .i64 0, .int .i64 0, .int .i64 0, .int .i64 0, .int .i64 0, .int .i64 0, .int .i64 0, .slice none 0 0, .bool false, .int .i64 0, .int .i64 0, .slice none 0 0, .int .i64 0, .int .i64 0, .bool false, .bool false, .bool false, .bool false, .slice none 0 0, .slice none 0 0, .int .i64 0, .int .i64 0] 51))
      have hr8 := RdU.alloc hr4 (.cells #[.int .i64 0, .int .i64 0, .int .i64 0, .int .i64 0, .int .i64 0, .int .i64 0, .int .i64 0, .slice none 0 0, .bool false, .int .i64 0, .int .i64 0, .slice none 0 0, .int .i64 0, .int .i64 0, .bool false, .bool false, .bool false, .bool false, .slice none 0 0, .slice none 0 0, .int .i64 0, .int .i64 0, .int .i64 0, .int .i64 0, .int .i64 0, .int .i64 0, .int .i64 0, .int .i64 0, .int .i64 0, .slice none 0 0, .bool false, .int .i64 0, .int .i64 0, .slice none 0 0, .int .i64 0, .int .i64 0, .bool false, .bool false, .bool false, .bool false, .slice none 0 0, .slice none 0 0, .int .i64 0, .int .i64 0] 51)
      refine hK.out _ _ (Blk.drew X8) (fun hHeld2 => ?_)
      clear hHeld hK K
      rename _ => hHeld
      (try simp only [Act.put, List.setIfInBounds_toArray, List.set_cons_zero, List.set_cons_succ])
      refine wpAnyH_ready (rs := [2]) (by kernel_rfl) (by simp) ?_
      refine AllReadyH.cons rfl (fun K hK => ?_) AllReadyH.nil
      go_simp
      (with_reducible refine (pick_U rb (p + 1 + 16 + 16) 20 _ (RdU.drew hr8) (by omega) (by omega)).mono ?_); rintro e w6 ⟨v6, rfl, hv6, hu6, hr6, ho6⟩
      have z6 := ho6.size
      (try simp at z6)
      have X6 := (Blk.drew X8).grown ho6 (fun e => by injection e with e; omega)
      have R6 := (Blk.drew R8).grown ho6 (fun e => by injection e with e; omega)
      have hW6 : HW H3 w6 := HW.only (HW.drew hW8.out) ho6 (low3.out rb (Nat.le_refl _))
      have f6 := Lib.hid (FrR.only (FrR.drew f8.out) ho6)
      have T6 := (Blk.drew T8).grown ho6 (fun e => by injection e with e; omega)
      have hW6 := Lib.hid hW6
      clear ho6
      go_wp2
      refine hK.out _ _ X6 (fun hHeld2 => ?_)
      clear hHeld hK K
      rename _ => hHeld
      (try simp only [Act.put, List.setIfInBounds_toArray, List.set_cons_zero, List.set_cons_succ])
      refine wpAnyH_ready (rs := [3]) (by kernel_rfl) (by simp) ?_
      refine AllReadyH.cons rfl (fun K hK => ?_) AllReadyH.nil
      go_simp
      refine (con_LinkRun.use hW6.out (vs := [_, _]) ⟨⟨L, rfl, cL.out⟩, ⟨⟨v6, rfl, by omega, by omega⟩, trivial⟩, trivial⟩).mono ?_
      rintro e w7 ⟨v7, H7, rfl, ⟨us, rfl, hu⟩, hW7, f7⟩
      obtain ⟨_, _, rfl, ⟨u, rfl, hu7⟩, ⟨⟨ok, rfl⟩, _⟩⟩ := ts2 hu
      have z7 := f7.size
      (try simp at z7)
      have X7 := X6.fr f7 nX4.out
      have R7 := R6.fr f7 nR3.out
      have nR7 := Lib.hid (f7.none_ nR3.out R6.lt)
      have fL := Lib.hid (FrX.trans f6.out f7)
      have T7 := T6.fr f7 nT.out
      have nT7 := Lib.hid (f7.none_ nT.out T6.lt)
      have lu := Lib.hid (show u.length = 44 from hu7.len)
      have ou := Lib.hid (show u.all (·.oneCell') = true from List.all_eq_true.2 fun v hv => CsOk.one hu7 v hv)
      have hu7 := Lib.hid hu7
      have hW7 := Lib.hid hW7
      clear hu f7
      go_wp2
      refine hK.out _ _ X7 (fun hHeld2 => ?_)
      clear hHeld hK K
      rename _ => hHeld
      (try simp only [Act.put, List.setIfInBounds_toArray, List.set_cons_zero, List.set_cons_succ])
      refine wpAnyH_takeD (i := 4) (v := ?_) (d := some 31) rfl rfl (by kernel_rfl) (by kernel_rfl) (by kernel_rfl) (fun _ _ _ h => h) (Or.inl ⟨by rfl, ?_⟩) (by assumption) ?_
      rotate_left 1
      · (intro W hSw; first | (go_simp; done) | (go_simp; with_reducible rfl))
      (try simp only [Act.put, List.setIfInBounds_toArray, List.set_cons_zero, List.set_cons_succ])
      refine wpAnyH_takeD (i := 5) (v := ?_) (d := some 36) rfl rfl (by kernel_rfl) (by kernel_rfl) (by kernel_rfl) (fun _ _ _ h => h) (Or.inl ⟨by rfl, ?_⟩) (by assumption) ?_
      rotate_left 1
      · (intro W hSw; first | (go_simp; done) | (go_simp; with_reducible rfl))
      (try simp only [Act.put, List.setIfInBounds_toArray, List.set_cons_zero, List.set_cons_succ])
      refine wpAnyH_takeD (i := 6) (v := ?_) (d := some 37) rfl rfl (by kernel_rfl) (by kernel_rfl) (by kernel_rfl) (fun _ _ _ h => h) (Or.inl ⟨by rfl, ?_⟩) (by assumption) ?_
      rotate_left 1
      · (intro W hSw; first | (go_simp; done) | (go_simp; with_reducible rfl))
      (try simp only [Act.put, List.setIfInBounds_toArray, List.set_cons_zero, List.set_cons_succ])
      refine wpAnyH_ready (rs := [8]) (by kernel_rfl) (by simp) ?_
      refine AllReadyH.cons rfl (fun K hK => ?_) AllReadyH.nil
      refine step_storeL T7 51 (.tmp 5) (.tmp 36) rfl (by first | rfl | kernel_rfl) 0 rfl u rfl (sz_impl_Link.trans (congrArg some lu.out.symm)) ou.out (by rw [lu.out]; simp) u (st_all (by rw [lu.out]; rfl)) ?_
      intro w9 T9 ho9
      have X9 := X7.grown ho9 (fun e => by injection e with e; omega)
      have R9 := R7.grown ho9 (fun e => by injection e with e; omega)
      have hW9 := Lib.hid (HW.only hW7.out ho9 nT7.out)
      have f9 := Lib.hid (FrR.mine fL.out ho9 (by omega))
      clear ho9
      refine hK.out _ _ X9 (fun hHeld2 => ?_)
      clear hHeld hK K
      rename _ => hHeld
      (try simp only [Act.put, List.setIfInBounds_toArray, List.set_cons_zero, List.set_cons_succ])
      refine wpAnyH_takeD (i := 9) (v := ?_) (d := some 6) rfl rfl (by kernel_rfl) (by kernel_rfl) (by kernel_rfl) (fun _ _ _ h => h) (Or.inl ⟨by rfl, ?_⟩) (by assumption) ?_
      rotate_left 1
      · (intro W hSw; first | (go_simp; done) | (go_simp; with_reducible rfl))
      (try simp only [Act.put, List.setIfInBounds_toArray, List.set_cons_zero, List.set_cons_succ])
      refine wpAnyH_done (by kernel_rfl) ?_ _
      go_wp2_with (first | ((with_reducible refine at_load 51 (.tmp 5) rfl ?_); go_must (refine wpList_loadB (by repeat (first | (with_reducible exact T9) | (with_reducible apply Blk.drew) | (with_reducible apply Blk.drewN) | (with_reducible apply Blk.alloc) | (with_reducible apply Blk.far) | omega | (focus (simp; done)) | (focus (simp; omega)))) 51 (.tmp 5) rfl (by rfl) 0 rfl (u) (sub_all _) Try.underlying51 rfl (sz_impl_Link.trans (congrArg some (Eq.symm (lu.out)))) ?_)) | ((with_reducible refine at_store 51 (.tmp 2) (.tmp 38) rfl ?_); go_must (refine wpList_storeB (Blk.now R9 (by repeat (first | (with_reducible exact R9) | (with_reducible refine Blk.drew ?_) | (with_reducible refine Blk.drewN ?_ _) | (with_reducible refine Blk.alloc ?_ _) | (with_reducible refine Blk.far ?_ ?_ _) | omega | (focus (simp; done)) | (focus (simp; omega))))) 51 (.tmp 2) (.tmp 38) rfl (by rfl) 0 rfl (u) rfl (sz_impl_Link.trans (congrArg some (Eq.symm (lu.out)))) (ou.out) ((by rw [lu.out]; simp)) (u) (st_all (by rw [lu.out]; rfl)) ?_; intro w10 N10 ho10; have hz10 := ho10.size; (try simp at hz10))))
      have f10 := FrR.mine f9.out ho10 (Nat.le_refl _)
      exact bodyPost_ret (results_blk rfl N10 _ rfl Try.underlying51 rfl (by rw [List.size_toArray, lu.out]; exact sz_impl_Link)) rfl ⟨u, rfl, lu.out, ou.out, f10.grown, fun w2 g hg ho => link_is hu7.out (HW.only (HW.only hW9.out ho10 nR7.out) ho (f10.none_ rfl hg))⟩
set_option maxHeartbeats 4000000 in
theorem DrawLinkValid_any (A : Option Addr) (n c : Nat) (w : World) (hC : Code w A n c) : Calls Try.prog 14 #[.slice A n c] w fun e w' => ∃ (vs : List Value) (d : LinkD), e = .returned (.agg vs.toArray) ∧ LinkIs w' vs d ∧ d.small ∧ Below w.heap.size w w' := by
  go_enter Try.func14, Try.ntmps14
  go_wp2_with (go_at_call 22; go_must ((with_reducible refine (open_U _ _ _ _ (hC.alloc _)).mono ?_); rintro e w0 ⟨rb, rfl, hrb, hr0, hb0⟩; (try simp at hrb); have hrl := hr0.lt; have hz0 := hb0.size; (try simp at hz0)))
  have z0 : w.heap.size < w0.heap.size := by have := hb0.size; simp at this; omega
  have R0 := (Blk.new w 51 #[.int .i64 0, .int .i64 0, .int .i64 0, .int .i64 0, .int .i64 0, .int .i64 0, .int .i64 0, .slice none 0 0, .bool false, .int .i64 0, .int .i64 0, .slice none 0 0, .int .i64 0, .int .i64 0, .bool false, .bool false, .bool false, .bool false, .slice none 0 0, .slice none 0 0, .int .i64 0, .int .i64 0, .int .i64 0, .int .i64 0, .int .i64 0, .int .i64 0, .int .i64 0, .int .i64 0, .int .i64 0, .slice none 0 0, .bool false, .int .i64 0, .int .i64 0, .slice none 0 0, .int .i64 0, .int .i64 0, .bool false, .bool false, .bool false, .bool false, .slice none 0 0, .slice none 0 0, .int .i64 0, .int .i64 0]).below hb0 (by simp)
  go_wp2_with fail
  (with_reducible refine (l92Link_any rb 0 _ ?_ (by omega)).mono ?_); (exact (by repeat (first | (with_reducible refine RdU.up (by assumption) (by omega)) | (with_reducible refine Rd.up (by assumption) (by omega)) | (with_reducible refine RdU.up (RdB.u (by assumption)) (by omega)) | (with_reducible refine RdU.drew ?_) | (with_reducible refine RdU.drewN ?_ _) | (with_reducible refine RdU.alloc ?_ _) | (with_reducible refine RdU.setCell ?_ ?_ _) | (with_reducible refine RdU.below ?_ (by assumption)) | omega | (focus (simp; done)) | (focus (simp; omega))))); rintro e w1 ⟨vs, rfl, l1, o1, ho1, st1⟩; have hz1 := ho1.size; (try simp at hz1); have R1 := Blk.liftO R0 ho1 (by repeat (first | (with_reducible exact R0) | (with_reducible refine Blk.drew ?_) | (with_reducible refine Blk.drewN ?_ _) | (with_reducible refine Blk.alloc ?_ _) | (with_reducible refine Blk.far ?_ ?_ _) | omega | (focus (simp; done)) | (focus (simp; omega)))) (by first | omega | (simp; done) | (simp; omega)); (try simp only [World.size_alloc, List.setIfInBounds_toArray, List.set_cons_zero, List.set_cons_succ] at R1); have R1l := R1.lt; (try simp only [World.size_alloc] at R1l)
  have lv := Lib.hid l1
  have ov := Lib.hid o1
  have ST := Lib.hid st1
  clear st1
  go_wp2_with ((with_reducible refine at_store 51 (.tmp 2) (.tmp 5) rfl ?_); go_must (refine wpList_storeB (Blk.now R1 (by repeat (first | (with_reducible exact R1) | (with_reducible refine Blk.drew ?_) | (with_reducible refine Blk.drewN ?_ _) | (with_reducible refine Blk.alloc ?_ _) | (with_reducible refine Blk.far ?_ ?_ _) | omega | (focus (simp; done)) | (focus (simp; omega))))) 51 (.tmp 2) (.tmp 5) rfl (by rfl) 0 rfl (vs) rfl (sz_impl_Link.trans (congrArg some (Eq.symm (lv.out)))) (ov.out) ((by rw [lv.out]; simp)) (vs) (st_all (by rw [lv.out]; rfl)) ?_; intro w2 N2 ho2; have hz2 := ho2.size; (try simp at hz2)))
  obtain ⟨d, hd, hs⟩ := ST.out _ _ z0 ho2
  exact bodyPost_ret (results_blk rfl N2 _ rfl Try.underlying51 rfl (by rw [List.size_toArray, lv.out]; exact sz_impl_Link)) rfl ⟨vs, d, rfl, hd, hs, (by repeat (first | (with_reducible exact b_refl _) | (with_reducible refine b_alloc ?_ _) | (with_reducible refine b_drew ?_) | (with_reducible refine b_drewN ?_ _) | (with_reducible refine b_set ?_ ?_ _) | (with_reducible refine b_trans ?_ (by assumption)) | (with_reducible refine b_only ?_ (by assumption) ?_) | omega | (focus (simp; done)) | (focus (simp; omega))))⟩
end Go.Proofs.Ytdnjdbafffifeaa

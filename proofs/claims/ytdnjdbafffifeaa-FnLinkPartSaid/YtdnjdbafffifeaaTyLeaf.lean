/-
  THE CHECKER's TABLE of this program's types, and the contracts of the functions that it takes as given: the reference's checks of receivers, senders, ports, drivers, links; bits, powers, status and interrupts.
-/
import Derived.Test.YtdnjdbafffifeaaTyGo
import Derived.Test.YtdnjdbafffifeaaIrqSpec
import Derived.Test.YtdnjdbafffifeaaLink
set_option linter.unusedVariables false
set_option linter.unusedSimpArgs false
namespace Go.Proofs.Ytdnjdbafffifeaa
open Go.ChangeShapes Go.WideShapes Go.ChangeAt Go.RowKit

def gC (lo hi : Nat) : Cel := .cl true true lo hi
def sC (lo hi : Nat) : Cel := .cl false true lo hi
def fmtC : List Cel := [.cr 0 8, .ci, .ci]
def recvC (lo hi : Nat) : List Cel := [.ci, .ci, gC lo hi, .cb, .ci]
def sendC (lo hi : Nat) : List Cel := [.ci, sC lo hi, .ci, .ci]
def modemC : List Cel := [.cb, .cb, .cb, .cb]
def portC : List Cel := [.cr 0 8, .ci, .ci, .ci, .ci, .ci, .ci, gC 0 32, .cb, .ci, .ci, sC 0 32, .ci, .ci, .cb, .cb, .cb, .cb]
def driverC (l1 h1 l2 h2 : Nat) : List Cel := portC ++ [sC l1 h1, sC l2 h2, .ci, .ci]
def drvC : List Cel := driverC 0 32 0 32
def linkC : List Cel := drvC ++ drvC
def pairC : List Cel := portC ++ portC
def zI : Cel := .cr 0 0
def zB : Cel := .ck false
def zPort : List Cel := [zI, zI, zI, zI, zI, zI, zI, gC 0 0, zB, zI, zI, sC 0 0, zI, zI, zB, zB, zB, zB]
def zDriver : List Cel := zPort ++ [sC 0 0, sC 0 0, zI, zI]
def tisA : List TI := [
  ⟨3, 1, false, [.ci], [zI], []⟩,
  ⟨4, 1, false, [.cb], [zB], []⟩,
  ⟨27, 1, false, [sC 0 32], [sC 0 0], []⟩,
  ⟨41, 1, false, [gC 0 32], [gC 0 0], []⟩,
  ⟨64, 2, true, [.ci, .ci], [zI, zI], [(0, 1), (1, 1)]⟩,
  ⟨40, 3, true, fmtC, [zI, zI, zI], [(0, 1), (1, 1), (2, 1)]⟩,
  ⟨43, 5, true, recvC 0 32, [zI, zI, gC 0 0, zB, zI], [(0, 1), (1, 1), (2, 1), (3, 1), (4, 1)]⟩,
  ⟨44, 4, true, sendC 0 32, [zI, sC 0 0, zI, zI], [(0, 1), (1, 1), (2, 1), (3, 1)]⟩,
  ⟨45, 4, true, modemC, [zB, zB, zB, zB], [(0, 1), (1, 1), (2, 1), (3, 1)]⟩,
  ⟨47, 18, true, portC, zPort, [(0, 3), (3, 1), (4, 1), (5, 5), (10, 4), (14, 4)]⟩,
  ⟨49, 22, true, drvC, zDriver, [(0, 18), (18, 1), (19, 1), (20, 1), (21, 1)]⟩,
  ⟨51, 44, true, linkC, zDriver ++ zDriver, [(0, 22), (22, 22)]⟩,
  ⟨126, 36, true, pairC, zPort ++ zPort, [(0, 18), (18, 18)]⟩]

def zeroB : List Cel → List Value → Bool
  | [], [] => true
  | .cr a b :: ks, .int .i64 z :: vs => decide (a ≤ z) && decide (z ≤ b) && zeroB ks vs
  | .ck x :: ks, .bool y :: vs => x == y && zeroB ks vs
  | .cl _ true lo _ :: ks, .slice none 0 0 :: vs => lo == 0 && zeroB ks vs
  | _, _ => false
noncomputable def flB : List (Nat × Nat) → List Field → Bool
  | [], [] => true
  | (o, s) :: fl, f :: r => f.offset == o && (match Try.prog.info? f.type with | some i => i.size == s | none => false) && s != 0 && flB fl r
  | _, _ => false
noncomputable def tiB (i : TI) : Bool :=
  match Try.prog.info? i.id, Try.prog.underlying i.id with
  | some info, some d => info.size == i.size && (match info.zero with | some z => zeroB i.zero z.cells.toList | none => false) && lesC i.zero i.std && i.zero.length == i.size &&
      (if i.row then (match d with | .struct fs => flB i.fl fs.toList | _ => false) else i.size == 1 && (match d with | .struct _ => false | .array _ _ => false | _ => true))
  | _, _ => false
theorem zeroB_ok : ∀ {ks : List Cel} {vs : List Value}, zeroB ks vs = true → CsOk (fun _ => none) ks vs
  | [], [], _ => trivial
  | k :: ks, v :: vs, h => by
    unfold zeroB at h
    split at h
    · rename_i e1 e2; cases e1
    · rename_i a b ks' z vs' e1 e2
      injection e1 with e1 e3; injection e2 with e2 e4
      subst e1; subst e2; subst e3; subst e4
      simp only [Bool.and_eq_true, decide_eq_true_eq] at h
      exact ⟨⟨z, rfl, h.1.1, h.1.2⟩, zeroB_ok h.2⟩
    · rename_i x ks' y vs' e1 e2
      injection e1 with e1 e3; injection e2 with e2 e4
      subst e1; subst e2; subst e3; subst e4
      simp only [Bool.and_eq_true, beq_iff_eq] at h
      obtain ⟨rfl, h2⟩ := h
      exact ⟨rfl, zeroB_ok h2⟩
    · rename_i lo hi ks' vs' e1 e2
      injection e1 with e1 e3; injection e2 with e2 e4
      subst e1; subst e2; subst e3; subst e4
      simp only [Bool.and_eq_true, beq_iff_eq] at h
      obtain ⟨rfl, h2⟩ := h
      exact ⟨⟨none, 0, 0, rfl, Nat.le_refl _, Nat.zero_le _, Nat.le_refl _, by unfold maxLen; omega, .inl ⟨rfl, .inl ⟨rfl, rfl, rfl⟩⟩⟩, zeroB_ok h2⟩
    · cases h
  | [], _ :: _, h => by simp [zeroB] at h
  | _ :: _, [], h => by unfold zeroB at h; split at h <;> first | (cases h; done) | (rename_i e _ ; cases e; done) | (rename_i _ e; cases e; done)
theorem flB_ok : ∀ {fl : List (Nat × Nat)} {r : List Field}, flB fl r = true → r.map (fun f => (f.offset, (Try.prog.info? f.type).map (·.size))) = fl.map (fun x => (x.1, some x.2)) ∧ (fl.all fun x => x.2 != 0) = true
  | [], [], _ => ⟨rfl, rfl⟩
  | (o, s) :: fl, f :: r, h => by
    unfold flB at h
    simp only [Bool.and_eq_true, beq_iff_eq] at h
    obtain ⟨⟨⟨h1, h2⟩, h3⟩, h4⟩ := h
    obtain ⟨k1, k2⟩ := flB_ok h4
    cases hi : Try.prog.info? f.type with
    | none => rw [hi] at h2; cases h2
    | some i =>
      rw [hi] at h2
      have h5 : i.size = s := by simpa using h2
      refine ⟨?_, ?_⟩
      · simp only [List.map_cons, k1, hi, Option.map_some, h1, h5]
      · simp only [List.all_cons, h3, k2, Bool.and_self]
  | [], _ :: _, h => by simp [flB] at h
  | _ :: _, [], h => by simp [flB] at h
theorem tiB_ok {i : TI} (h : tiB i = true) : TiOk i := by
  unfold tiB at h
  cases h1 : Try.prog.info? i.id with
  | none => rw [h1] at h; cases h
  | some info =>
    cases h2 : Try.prog.underlying i.id with
    | none => rw [h1, h2] at h; cases h
    | some d =>
      rw [h1, h2] at h
      simp only [Bool.and_eq_true, beq_iff_eq] at h
      obtain ⟨⟨⟨⟨k1, k2⟩, k3⟩, k4⟩, k5⟩ := h
      cases hz : info.zero with
      | none => rw [hz] at k2; cases k2
      | some z =>
        rw [hz] at k2
        refine ⟨info, z, h1, k1, hz, zeroB_ok k2, k3, k4, fun hr => ?_, fun hr => ?_⟩
        · rw [hr, if_pos rfl] at k5
          cases d with
          | struct fs => exact ⟨fs, h2, flB_ok k5⟩
          | _ => exact Bool.noConfusion k5
        · rw [hr, if_neg (by decide)] at k5
          simp only [Bool.and_eq_true, beq_iff_eq] at k5
          refine ⟨k5.1, d, h2, ?_⟩
          have k6 := k5.2
          cases d with
          | struct fs => exact Bool.noConfusion k6.symm
          | array n e => exact Bool.noConfusion k6.symm
          | _ => rfl
theorem tisA_ok : ∀ i ∈ tisA, TiOk i := fun i hi => tiB_ok (List.all_eq_true.1 (show tisA.all tiB = true by kernel_rfl) i hi)
theorem mixed_ok : Try.prog.follows .mixedOrders = true := by kernel_rfl
/-! ### From shapes to contents -/
theorem allI_ints : ∀ {vs : List Value}, AllI vs → ∃ zs : List Int, zs.map (Value.int .i64) = vs
  | [], _ => ⟨[], rfl⟩
  | v :: vs, h => by
    obtain ⟨z, e⟩ := h v List.mem_cons_self
    obtain ⟨zs, e2⟩ := allI_ints (vs := vs) (fun u hu => h u (List.mem_cons_of_mem _ hu))
    exact ⟨z :: zs, by rw [List.map_cons, e2, e]⟩
theorem allI_gots : ∀ {n : Nat} {vs : List Value}, AllI vs → vs.length = n * 2 → ∃ gs : List (Int × Int), gotCells gs = vs
  | 0, vs, _, hl => ⟨[], (List.eq_nil_of_length_eq_zero (by omega)).symm⟩
  | n + 1, [], _, hl => by simp at hl
  | n + 1, [_], _, hl => by simp at hl; omega
  | n + 1, v :: u :: vs, h, hl => by
    obtain ⟨z, e⟩ := h v List.mem_cons_self
    obtain ⟨z', e'⟩ := h u (List.mem_cons_of_mem _ List.mem_cons_self)
    obtain ⟨gs, e2⟩ := allI_gots (n := n) (vs := vs) (fun x hx => h x (List.mem_cons_of_mem _ (List.mem_cons_of_mem _ hx))) (by simp at hl; omega)
    exact ⟨(z, z') :: gs, by rw [e, e', ← e2]; simp [gotCells]⟩
section
variable {H : Hp} {w : World}
theorem cl_ints {own : Bool} {lo hi : Nat} {v : Value} (h : COk H (.cl false own lo hi) v) (hW : HW H w) : ∃ A n c xs, v = .slice A n c ∧ lo ≤ n ∧ n ≤ hi ∧ Ints w A n xs := by
  obtain ⟨A, n, c, us, e, h1, h2, h3, h4, h5, h6⟩ := list_reads h hW
  obtain ⟨zs, rfl⟩ := allI_ints h6
  exact ⟨A, n, c, zs, e, h1, h2, h5⟩
theorem cl_gots {own : Bool} {lo hi : Nat} {v : Value} (h : COk H (.cl true own lo hi) v) (hW : HW H w) : ∃ A n c gs, v = .slice A n c ∧ lo ≤ n ∧ n ≤ hi ∧ Gots w A n gs := by
  obtain ⟨A, n, c, us, e, h1, h2, h3, h4, h5, h6⟩ := list_reads h hW
  obtain ⟨gs, rfl⟩ := allI_gots h6 (n := n) h5.1
  exact ⟨A, n, c, gs, e, h1, h2, h5⟩
theorem CsOk.un {k : Cel} {ks : List Cel} {vs : List Value} (h : CsOk H (k :: ks) vs) : ∃ v r, vs = v :: r ∧ COk H k v ∧ CsOk H ks r := by
  cases vs with
  | nil => exact h.elim
  | cons v r => exact ⟨v, r, rfl, h.1, h.2⟩
theorem CsOk.un0 {vs : List Value} (h : CsOk H [] vs) : vs = [] := by
  cases vs with
  | nil => rfl
  | cons v r => exact h.elim
theorem port_is {vs : List Value} (h : CsOk H portC vs) (hW : HW H w) : ∃ d, PortIs w vs d ∧ d.gs.length ≤ 32 ∧ d.xs.length ≤ 32 ∧ d.b ≤ 8 := by
  obtain ⟨v0, r0, rfl, ⟨b, rfl, _, hb⟩, h0⟩ := CsOk.un h
  obtain ⟨v1, r1, rfl, ⟨p, rfl⟩, h1⟩ := CsOk.un h0
  obtain ⟨v2, r2, rfl, ⟨s, rfl⟩, h2⟩ := CsOk.un h1
  obtain ⟨v3, r3, rfl, ⟨en, rfl⟩, h3⟩ := CsOk.un h2
  obtain ⟨v4, r4, rfl, ⟨ct, rfl⟩, h4⟩ := CsOk.un h3
  obtain ⟨v5, r5, rfl, ⟨rr, rfl⟩, h5⟩ := CsOk.un h4
  obtain ⟨v6, r6, rfl, ⟨rt, rfl⟩, h6⟩ := CsOk.un h5
  obtain ⟨v7, r7, rfl, hg, h7⟩ := CsOk.un h6
  obtain ⟨v8, r8, rfl, ⟨rl, rfl⟩, h8⟩ := CsOk.un h7
  obtain ⟨v9, r9, rfl, ⟨ra, rfl⟩, h9⟩ := CsOk.un h8
  obtain ⟨v10, r10, rfl, ⟨sr, rfl⟩, h10⟩ := CsOk.un h9
  obtain ⟨v11, r11, rfl, hx, h11⟩ := CsOk.un h10
  obtain ⟨v12, r12, rfl, ⟨sh, rfl⟩, h12⟩ := CsOk.un h11
  obtain ⟨v13, r13, rfl, ⟨sl, rfl⟩, h13⟩ := CsOk.un h12
  obtain ⟨v14, r14, rfl, ⟨ma, rfl⟩, h14⟩ := CsOk.un h13
  obtain ⟨v15, r15, rfl, ⟨mb, rfl⟩, h15⟩ := CsOk.un h14
  obtain ⟨v16, r16, rfl, ⟨mc, rfl⟩, h16⟩ := CsOk.un h15
  obtain ⟨v17, r17, rfl, ⟨md, rfl⟩, h17⟩ := CsOk.un h16
  obtain rfl := CsOk.un0 h17
  obtain ⟨RA, rn, rc, gs, rfl, _, k1, hg⟩ := cl_gots hg hW
  obtain ⟨SA, sn, sc, xs, rfl, _, k2, hx⟩ := cl_ints hx hW
  exact ⟨⟨b, p, s, en, ct, rr, rt, ra, sr, sh, sl, rl, ma, mb, mc, md, gs, xs⟩, ⟨RA, SA, rn, sn, rc, sc, rfl, hg, hx⟩, by rw [hg.len]; exact k1, by rw [hx.len]; exact k2, hb⟩
theorem driver_is {l1 h1 l2 h2 : Nat} (k1 : h1 ≤ 32) (k2 : h2 ≤ 32) {vs : List Value} (h : CsOk H (driverC l1 h1 l2 h2) vs) (hW : HW H w) : ∃ d, DriverIs w vs d ∧ d.small ∧ d.port.b ≤ 8 := by
  have hp : CsOk H portC (vs.take 18) := h.take 18
  have hr : CsOk H [sC l1 h1, sC l2 h2, .ci, .ci] (vs.drop 18) := h.drop 18
  obtain ⟨dp, q1, q2, q3, q4⟩ := port_is hp hW
  generalize hus : vs.drop 18 = us at hr
  match us, hr with
  | [_, _, _, _], ⟨hi, ho, ⟨wr, rfl⟩, ⟨lo, rfl⟩, _⟩ =>
    obtain ⟨IA, ni, ci, xi, rfl, _, n1, hi⟩ := cl_ints hi hW
    obtain ⟨OA, no, co, xo, rfl, _, n2, ho⟩ := cl_ints ho hW
    refine ⟨⟨dp, xi, xo, wr, lo⟩, ⟨vs.take 18, IA, OA, ni, ci, no, co, ?_, q1, hi, ho⟩, ⟨⟨Nat.le_trans q2 (by decide), Nat.le_trans q3 (by decide)⟩, ?_, ?_⟩, q4⟩
    · rw [← hus, List.take_append_drop]
    · show xi.length ≤ 1048576
      rw [hi.len]; omega
    · show xo.length ≤ 1048576
      rw [ho.len]; omega
theorem link_is {vs : List Value} (h : CsOk H linkC vs) (hW : HW H w) : ∃ d, LinkIs w vs d ∧ d.small := by
  have ha : CsOk H drvC (vs.take 22) := h.take 22
  have hb : CsOk H drvC (vs.drop 22) := h.drop 22
  obtain ⟨da, a1, a2, _⟩ := driver_is (Nat.le_refl _) (Nat.le_refl _) ha hW
  obtain ⟨db, b1, b2, _⟩ := driver_is (Nat.le_refl _) (Nat.le_refl _) hb hW
  exact ⟨⟨da, db⟩, ⟨_, _, (List.take_append_drop 22 vs).symm, a1, b1⟩, a2, b2⟩
theorem ts1 {t1 : List Cel × Bool} {vs : List Value} (h : TsOk H [t1] vs) : ∃ a, vs = [a] ∧ VOk H t1.1 t1.2 a := by
  match vs, h with
  | [a], ⟨h1, _⟩ => exact ⟨a, rfl, h1⟩
theorem ts2 {t1 t2 : List Cel × Bool} {vs : List Value} (h : TsOk H [t1, t2] vs) : ∃ a b, vs = [a, b] ∧ VOk H t1.1 t1.2 a ∧ VOk H t2.1 t2.2 b := by
  match vs, h with
  | [a, b], ⟨h1, h2, _⟩ => exact ⟨a, b, rfl, h1, h2⟩
theorem ts3 {t1 t2 t3 : List Cel × Bool} {vs : List Value} (h : TsOk H [t1, t2, t3] vs) : ∃ a b c, vs = [a, b, c] ∧ VOk H t1.1 t1.2 a ∧ VOk H t2.1 t2.2 b ∧ VOk H t3.1 t3.2 c := by
  match vs, h with
  | [a, b, c], ⟨h1, h2, h3, _⟩ => exact ⟨a, b, c, rfl, h1, h2, h3⟩
end
/-! ### The callees that are taken as given -/
theorem con_leaf {f : FuncId} {fn : Func} {ts : List (List Cel × Bool)} {τ : Ty} (hf : Try.prog.funcs[f]? = some fn) (hn : (fn.name == "runtime.NumGoroutine") = false) (hb : fn.body.isNone = false)
    (h : ∀ (H : Hp) (w : World) (vs : List Value), HW H w → TsOk H ts vs → Calls Try.prog f vs.toArray w fun e w' => ∃ v, e = .returned v ∧ TOk H id τ v ∧ Below w.heap.size w w') : Con f ts τ :=
  ⟨⟨fn, hf, hn, hb⟩, fun H w vs hW hts => (h H w vs hW hts).mono fun e w' ⟨v, he, hv, hbl⟩ => ⟨v, H, he, hv, hW.below hbl, Fr.of_below hbl⟩⟩
def tB : Ty := .tv [.cb] false
def tI : Ty := .tv [.ci] false
theorem con_l6In : Con 40 [([.ci], false), ([.ci], false), ([.ci], false)] tB := by
  refine con_leaf Try.func40 (by kernel_rfl) (by kernel_rfl) fun H w vs hW h => ?_
  obtain ⟨_, _, _, rfl, ⟨⟨x, rfl⟩, _⟩, ⟨⟨y, rfl⟩, _⟩, ⟨⟨z, rfl⟩, _⟩⟩ := ts3 h
  exact (l6In_any x y z w).mono fun e w' ⟨he, hw⟩ => ⟨_, he, ⟨⟨_, rfl⟩, trivial⟩, by subst hw; exact b_refl _⟩
theorem con_l11Got : Con 82 [([.ci, .ci], true)] tB := by
  refine con_leaf Try.func82 (by kernel_rfl) (by kernel_rfl) fun H w vs hW h => ?_
  obtain ⟨_, rfl, us, rfl, hu⟩ := ts1 h
  match us, hu with
  | [_, _], ⟨⟨x, rfl⟩, ⟨y, rfl⟩, _⟩ => exact (l11Got_any x y w).mono fun e w' ⟨he, hb⟩ => ⟨_, he, ⟨⟨_, rfl⟩, trivial⟩, hb⟩
theorem con_l4Bytes : Con 39 [([sC 0 32], false)] tB := by
  refine con_leaf Try.func39 (by kernel_rfl) (by kernel_rfl) fun H w vs hW h => ?_
  obtain ⟨_, rfl, hx, _⟩ := ts1 h
  obtain ⟨A, n, c, xs, rfl, _, h2, hx⟩ := cl_ints hx hW
  exact (l4Bytes_any A n c xs w hx (by omega)).mono fun e w' ⟨he, hw⟩ => ⟨_, he, ⟨⟨_, rfl⟩, trivial⟩, by subst hw; exact b_refl _⟩
theorem con_RecvValid : Con 64 [(recvC 0 32, true)] tB := by
  refine con_leaf Try.func64 (by kernel_rfl) (by kernel_rfl) fun H w vs hW h => ?_
  obtain ⟨_, rfl, us, rfl, hu⟩ := ts1 h
  match us, hu with
  | [_, _, _, _, _], ⟨⟨rr, rfl⟩, ⟨rt, rfl⟩, hg, ⟨rl, rfl⟩, ⟨ra, rfl⟩, _⟩ =>
    obtain ⟨A, n, c, gs, rfl, _, h2, hg⟩ := cl_gots hg hW
    exact (spec_RecvValid rr rt A n c rl ra gs w hg (by omega)).mono fun e w' ⟨he, hb⟩ => ⟨_, he, ⟨⟨_, rfl⟩, trivial⟩, hb⟩
theorem recvOk_long {rm tr ag : Int} {gs : List (Int × Int)} (h : 17 ≤ gs.length) : recvOk rm tr gs ag = false := by
  cases hb : recvOk rm tr gs ag with
  | false => rfl
  | true =>
    unfold recvOk in_ at hb
    simp at hb
    omega
theorem sendOk_long {sr sh sl : Int} {xs : List Int} (h : 17 ≤ xs.length) : sendOk sr xs sh sl = false := by
  cases hb : sendOk sr xs sh sl with
  | false => rfl
  | true =>
    unfold sendOk in_ at hb
    simp at hb
    omega
theorem con_RecvValid_long : Con 64 [(recvC 17 32, true)] (.tv [.ck false] false) := by
  refine con_leaf Try.func64 (by kernel_rfl) (by kernel_rfl) fun H w vs hW h => ?_
  obtain ⟨_, rfl, us, rfl, hu⟩ := ts1 h
  match us, hu with
  | [_, _, _, _, _], ⟨⟨rr, rfl⟩, ⟨rt, rfl⟩, hg, ⟨rl, rfl⟩, ⟨ra, rfl⟩, _⟩ =>
    obtain ⟨A, n, c, gs, rfl, h1, h2, hg⟩ := cl_gots hg hW
    exact (spec_RecvValid rr rt A n c rl ra gs w hg (by omega)).mono fun e w' ⟨he, hb⟩ => ⟨_, he, ⟨by show Value.bool _ = Value.bool false; rw [recvOk_long (by rw [hg.len]; exact h1)], trivial⟩, hb⟩
theorem con_SendValid : Con 65 [(sendC 0 32, true)] tB := by
  refine con_leaf Try.func65 (by kernel_rfl) (by kernel_rfl) fun H w vs hW h => ?_
  obtain ⟨_, rfl, us, rfl, hu⟩ := ts1 h
  match us, hu with
  | [_, _, _, _], ⟨⟨sr, rfl⟩, hx, ⟨sh, rfl⟩, ⟨sl, rfl⟩, _⟩ =>
    obtain ⟨A, n, c, xs, rfl, _, h2, hx⟩ := cl_ints hx hW
    exact (spec_SendValid sr A n c sh sl xs w hx (by omega)).mono fun e w' ⟨he, hb⟩ => ⟨_, he, ⟨⟨_, rfl⟩, trivial⟩, hb⟩
theorem con_SendValid_long : Con 65 [(sendC 17 32, true)] (.tv [.ck false] false) := by
  refine con_leaf Try.func65 (by kernel_rfl) (by kernel_rfl) fun H w vs hW h => ?_
  obtain ⟨_, rfl, us, rfl, hu⟩ := ts1 h
  match us, hu with
  | [_, _, _, _], ⟨⟨sr, rfl⟩, hx, ⟨sh, rfl⟩, ⟨sl, rfl⟩, _⟩ =>
    obtain ⟨A, n, c, xs, rfl, h1, h2, hx⟩ := cl_ints hx hW
    exact (spec_SendValid sr A n c sh sl xs w hx (by omega)).mono fun e w' ⟨he, hb⟩ => ⟨_, he, ⟨by show Value.bool _ = Value.bool false; rw [sendOk_long (by rw [hx.len]; exact h1)], trivial⟩, hb⟩
theorem con_PortValid : Con 38 [(portC, true)] tB := by
  refine con_leaf Try.func38 (by kernel_rfl) (by kernel_rfl) fun H w vs hW h => ?_
  obtain ⟨_, rfl, us, rfl, hu⟩ := ts1 h
  obtain ⟨d, h1, h2, h3, _⟩ := port_is hu hW
  exact (spec_PortValidV us d w h1 ⟨by omega, by omega⟩).mono fun e w' ⟨he, hb⟩ => ⟨_, he, ⟨⟨_, rfl⟩, trivial⟩, hb⟩
theorem con_DriverValid : Con 24 [(drvC, true)] tB := by
  refine con_leaf Try.func24 (by kernel_rfl) (by kernel_rfl) fun H w vs hW h => ?_
  obtain ⟨_, rfl, us, rfl, hu⟩ := ts1 h
  obtain ⟨d, h1, h2, _⟩ := driver_is (Nat.le_refl _) (Nat.le_refl _) hu hW
  exact (spec_DriverValidW us d w h1 h2 _ rfl).mono fun e w' ⟨he, hb⟩ => ⟨_, he, ⟨⟨_, rfl⟩, trivial⟩, hb⟩
theorem con_LinkValid : Con 16 [(linkC, true)] tB := by
  refine con_leaf Try.func16 (by kernel_rfl) (by kernel_rfl) fun H w vs hW h => ?_
  obtain ⟨_, rfl, us, rfl, hu⟩ := ts1 h
  obtain ⟨d, h1, h2⟩ := link_is hu hW
  exact (spec_LinkValidW us d w h1 h2 _ rfl).mono fun e w' ⟨he, hb⟩ => ⟨_, he, ⟨⟨_, rfl⟩, trivial⟩, hb⟩
theorem con_PortIrq : Con 89 [(portC, true)] tI := by
  refine con_leaf Try.func89 (by kernel_rfl) (by kernel_rfl) fun H w vs hW h => ?_
  obtain ⟨_, rfl, us, rfl, hu⟩ := ts1 h
  obtain ⟨d, h1, h2, h3, _⟩ := port_is hu hW
  exact (spec_PortIrqW us d w h1 ⟨by omega, by omega⟩ _ rfl).mono fun e w' ⟨he, hb⟩ => ⟨_, he, ⟨⟨_, rfl⟩, trivial⟩, hb⟩
theorem con_l15Status : Con 103 [(portC, true)] tI := by
  refine con_leaf Try.func103 (by kernel_rfl) (by kernel_rfl) fun H w vs hW h => ?_
  obtain ⟨_, rfl, us, rfl, hu⟩ := ts1 h
  obtain ⟨⟨b, p, s, en, ct, rr, rt, ra, sr, sh, sl, rl, ma, mb, mc, md, gs, xs⟩, ⟨RA, SA, rn, sn, rc, sc, rfl, hg, hx⟩, h2, h3, _⟩ := port_is hu hW
  have e1 := hg.len
  have e2 := hx.len
  simp only at h2 h3
  exact (l15Status_any w hg hx (by omega) (by omega)).mono fun e w' ⟨he, hb⟩ => ⟨_, he, ⟨⟨_, rfl⟩, trivial⟩, hb⟩
theorem con_ModemSet : Con 97 [(modemC, true), ([.cb], false), ([.cb], false)] (.tv modemC true) := by
  refine con_leaf Try.func97 (by kernel_rfl) (by kernel_rfl) fun H w vs hW h => ?_
  obtain ⟨_, _, _, rfl, ⟨us, rfl, hu⟩, ⟨⟨x, rfl⟩, _⟩, ⟨⟨y, rfl⟩, _⟩⟩ := ts3 h
  match us, hu with
  | [_, _, _, _], ⟨⟨a, rfl⟩, ⟨b, rfl⟩, ⟨c, rfl⟩, ⟨d, rfl⟩, _⟩ =>
    exact (spec_ModemSet a b c d x y w).mono fun e w' ⟨he, hb⟩ => ⟨_, he, ⟨[_, _, _, _], rfl, ⟨⟨_, rfl⟩, ⟨_, rfl⟩, ⟨_, rfl⟩, ⟨_, rfl⟩, trivial⟩⟩, hb⟩
end Go.Proofs.Ytdnjdbafffifeaa

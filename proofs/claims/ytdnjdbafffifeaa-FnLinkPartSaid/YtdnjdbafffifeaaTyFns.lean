/-
  THE CHECKER AT WORK: the shapes of the functions that a fresh link runs, from callees to callers; each by one evaluation.
-/
import Derived.Test.YtdnjdbafffifeaaTyBit
set_option linter.unusedVariables false
set_option linter.unusedSimpArgs false
namespace Go.Proofs.Ytdnjdbafffifeaa
open Go.ChangeShapes Go.WideShapes Go.ChangeAt Go.RowKit

abbrev Env := List (FuncId × List (List Cel × Bool) × Ty)
def noP : Ty → Bool
  | .tp _ _ => false
  | _ => true
def EnvOk (env : Env) : Prop := ∀ x ∈ env, Con x.1 x.2.1 x.2.2 ∧ ∀ r o, x.2.2 ≠ .tp r o
theorem EnvOk.nil : EnvOk [] := fun x h => by cases h
theorem EnvOk.add {env : Env} {f : FuncId} {ts : List (List Cel × Bool)} {τ : Ty} (c : Con f ts τ) (hn : noP τ = true) (h : EnvOk env) : EnvOk ((f, ts, τ) :: env) := fun x hx => by
  rcases List.mem_cons.1 hx with rfl | hx
  · exact ⟨c, fun r o e => by simp only at e; rw [e] at hn; cases hn⟩
  · exact h x hx
theorem con_fn {env : Env} (hE : EnvOk env) {hints : List (Nat × Nat × Nat × Nat)} {f : FuncId} {fn : Func} {ts : List (List Cel × Bool)} {τ : Ty} {fuel : Nat} (hf : Try.prog.funcs[f]? = some fn) (hn : (fn.name == "runtime.NumGoroutine") = false)
    (h : chkFn ⟨tisA, env, hints⟩ fuel fn ts τ = true) : Con f ts τ := con_of (cx := ⟨tisA, env, hints⟩) ⟨tisA_ok, hE⟩ mixed_ok hf hn h
def env0 : Env := [
  (64, [(recvC 17 32, true)], (.tv [.ck false] false)),
  (64, [(recvC 0 32, true)], tB),
  (65, [(sendC 17 32, true)], (.tv [.ck false] false)),
  (65, [(sendC 0 32, true)], tB),
  (40, [([.ci], false), ([.ci], false), ([.ci], false)], tB),
  (82, [([.ci, .ci], true)], tB),
  (39, [([sC 0 32], false)], tB),
  (38, [(portC, true)], tB),
  (24, [(drvC, true)], tB),
  (16, [(linkC, true)], tB),
  (89, [(portC, true)], tI),
  (103, [(portC, true)], tI),
  (97, [(modemC, true), ([.cb], false), ([.cb], false)], (.tv modemC true)),
  (75, [([.ci], false), ([.cr 1 1], false)], tB),
  (75, [([.ci], false), ([.cr 2 2], false)], tB),
  (75, [([.ci], false), ([.cr 4 4], false)], tB),
  (75, [([.ci], false), ([.cr 8 8], false)], tB),
  (100, [(fmtC, true), ([.ci], false)], tI),
  (101, [(fmtC, true), (fmtC, true)], tI)]
theorem env0_ok : EnvOk env0 := EnvOk.add con_RecvValid_long rfl (EnvOk.add con_RecvValid rfl (EnvOk.add con_SendValid_long rfl (EnvOk.add con_SendValid rfl (EnvOk.add con_l6In rfl (EnvOk.add con_l11Got rfl (EnvOk.add con_l4Bytes rfl (EnvOk.add con_PortValid rfl (EnvOk.add con_DriverValid rfl (EnvOk.add con_LinkValid rfl (EnvOk.add con_PortIrq rfl (EnvOk.add con_l15Status rfl (EnvOk.add con_ModemSet rfl (EnvOk.add con_l13Bit1 rfl (EnvOk.add con_l13Bit2 rfl (EnvOk.add con_l13Bit4 rfl (EnvOk.add con_l13Bit8 rfl (EnvOk.add con_l16Low rfl (EnvOk.add con_l16Code rfl (EnvOk.nil)))))))))))))))))))
theorem con_l21Count : Con 106 [([.ci], false)] tI := con_fn env0_ok (hints := []) (fuel := 200) Try.func106 (by kernel_rfl) (by kernel_rfl)
def env1 : Env := (106, [([.ci], false)], tI) :: env0
theorem env1_ok : EnvOk env1 := EnvOk.add con_l21Count rfl env0_ok
theorem con_l11With : Con 111 [(recvC 0 32, true), ([gC 0 32], false)] (.tv (recvC 0 32) true) := con_fn env1_ok (hints := []) (fuel := 200) Try.func111 (by kernel_rfl) (by kernel_rfl)
def env2 : Env := (111, [(recvC 0 32, true), ([gC 0 32], false)], (.tv (recvC 0 32) true)) :: env1
theorem env2_ok : EnvOk env2 := EnvOk.add con_l11With rfl env1_ok
theorem con_ModemRead : Con 110 [(modemC, true)] (.tt [(modemC, true), ([.ci], false)]) := con_fn env2_ok (hints := []) (fuel := 200) Try.func110 (by kernel_rfl) (by kernel_rfl)
def env3 : Env := (110, [(modemC, true)], (.tt [(modemC, true), ([.ci], false)])) :: env2
theorem env3_ok : EnvOk env3 := EnvOk.add con_ModemRead rfl env2_ok
theorem con_RecvPut : Con 99 [(recvC 0 32, true), ([.ci, .ci], true)] (.tt [(recvC 0 32, true), ([.cb], false)]) := con_fn env3_ok (hints := [(1, 2, 2, 17)]) (fuel := 200) Try.func99 (by kernel_rfl) (by kernel_rfl)
def env4 : Env := (99, [(recvC 0 32, true), ([.ci, .ci], true)], (.tt [(recvC 0 32, true), ([.cb], false)])) :: env3
theorem env4_ok : EnvOk env4 := EnvOk.add con_RecvPut rfl env3_ok
theorem con_RecvTake : Con 108 [(recvC 0 32, true)] (.tt [(recvC 0 32, true), ([.ci, .ci], true), ([.cb], false)]) := con_fn env4_ok (hints := [(1, 1, 2, 1)]) (fuel := 200) Try.func108 (by kernel_rfl) (by kernel_rfl)
def env5 : Env := (108, [(recvC 0 32, true)], (.tt [(recvC 0 32, true), ([.ci, .ci], true), ([.cb], false)])) :: env4
theorem env5_ok : EnvOk env5 := EnvOk.add con_RecvTake rfl env4_ok
theorem con_l11Tick : Con 98 [(recvC 0 32, true)] (.tv (recvC 0 32) true) := con_fn env5_ok (hints := []) (fuel := 200) Try.func98 (by kernel_rfl) (by kernel_rfl)
def env6 : Env := (98, [(recvC 0 32, true)], (.tv (recvC 0 32) true)) :: env5
theorem env6_ok : EnvOk env6 := EnvOk.add con_l11Tick rfl env5_ok
theorem con_SendPut : Con 115 [(sendC 0 32, true), ([.ci], false)] (.tt [(sendC 0 32, true), ([.cb], false)]) := con_fn env6_ok (hints := [(1, 2, 1, 17)]) (fuel := 200) Try.func115 (by kernel_rfl) (by kernel_rfl)
def env7 : Env := (115, [(sendC 0 32, true), ([.ci], false)], (.tt [(sendC 0 32, true), ([.cb], false)])) :: env6
theorem env7_ok : EnvOk env7 := EnvOk.add con_SendPut rfl env6_ok
theorem con_l12Tick : Con 86 [(sendC 0 32, true)] (.tt [(sendC 0 32, true), ([.ci], false)]) := con_fn env7_ok (hints := [(8, 4, 1, 1)]) (fuel := 200) Try.func86 (by kernel_rfl) (by kernel_rfl)
def env8 : Env := (86, [(sendC 0 32, true)], (.tt [(sendC 0 32, true), ([.ci], false)])) :: env7
theorem env8_ok : EnvOk env8 := EnvOk.add con_l12Tick rfl env7_ok
theorem con_l15Copy : Con 76 [(portC, true)] (.tv portC true) := con_fn env8_ok (hints := []) (fuel := 200) Try.func76 (by kernel_rfl) (by kernel_rfl)
def env9 : Env := (76, [(portC, true)], (.tv portC true)) :: env8
theorem env9_ok : EnvOk env9 := EnvOk.add con_l15Copy rfl env8_ok
theorem con_l21Copy : Con 57 [(drvC, true)] (.tv drvC true) := con_fn env9_ok (hints := []) (fuel := 200) Try.func57 (by kernel_rfl) (by kernel_rfl)
def env10 : Env := (57, [(drvC, true)], (.tv drvC true)) :: env9
theorem env10_ok : EnvOk env10 := EnvOk.add con_l21Copy rfl env9_ok
theorem con_l21Copy0 : Con 57 [(driverC 0 32 0 0, true)] (.tv (driverC 0 32 0 0) true) := con_fn env10_ok (hints := []) (fuel := 200) Try.func57 (by kernel_rfl) (by kernel_rfl)
def env11 : Env := (57, [(driverC 0 32 0 0, true)], (.tv (driverC 0 32 0 0) true)) :: env10
theorem env11_ok : EnvOk env11 := EnvOk.add con_l21Copy0 rfl env10_ok
theorem con_l16Arrive : Con 88 [(portC, true), (fmtC, true), ([.ci], false)] (.tv portC true) := con_fn env11_ok (hints := []) (fuel := 200) Try.func88 (by kernel_rfl) (by kernel_rfl)
def env12 : Env := (88, [(portC, true), (fmtC, true), ([.ci], false)], (.tv portC true)) :: env11
theorem env12_ok : EnvOk env12 := EnvOk.add con_l16Arrive rfl env11_ok
theorem con_l16Lines : Con 87 [(portC, true), ([.ci], false)] (.tv portC true) := con_fn env12_ok (hints := []) (fuel := 200) Try.func87 (by kernel_rfl) (by kernel_rfl)
def env13 : Env := (87, [(portC, true), ([.ci], false)], (.tv portC true)) :: env12
theorem env13_ok : EnvOk env13 := EnvOk.add con_l16Lines rfl env12_ok
theorem con_l16Tick : Con 77 [(pairC, true)] (.tv pairC true) := con_fn env13_ok (hints := []) (fuel := 200) Try.func77 (by kernel_rfl) (by kernel_rfl)
def env14 : Env := (77, [(pairC, true)], (.tv pairC true)) :: env13
theorem env14_ok : EnvOk env14 := EnvOk.add con_l16Tick rfl env13_ok
theorem con_PortRead0 : Con 92 [(portC, true), ([.cr 0 0], false)] (.tt [(portC, true), ([.ci], false), ([.cb], false)]) := con_fn env14_ok (hints := []) (fuel := 200) Try.func92 (by kernel_rfl) (by kernel_rfl)
def env15 : Env := (92, [(portC, true), ([.cr 0 0], false)], (.tt [(portC, true), ([.ci], false), ([.cb], false)])) :: env14
theorem env15_ok : EnvOk env15 := EnvOk.add con_PortRead0 rfl env14_ok
theorem con_PortRead5 : Con 92 [(portC, true), ([.cr 5 5], false)] (.tt [(portC, true), ([.ci], false), ([.cb], false)]) := con_fn env15_ok (hints := []) (fuel := 200) Try.func92 (by kernel_rfl) (by kernel_rfl)
def env16 : Env := (92, [(portC, true), ([.cr 5 5], false)], (.tt [(portC, true), ([.ci], false), ([.cb], false)])) :: env15
theorem env16_ok : EnvOk env16 := EnvOk.add con_PortRead5 rfl env15_ok
theorem con_PortRead6 : Con 92 [(portC, true), ([.cr 6 6], false)] (.tt [(portC, true), ([.ci], false), ([.cb], false)]) := con_fn env16_ok (hints := []) (fuel := 200) Try.func92 (by kernel_rfl) (by kernel_rfl)
def env17 : Env := (92, [(portC, true), ([.cr 6 6], false)], (.tt [(portC, true), ([.ci], false), ([.cb], false)])) :: env16
theorem env17_ok : EnvOk env17 := EnvOk.add con_PortRead6 rfl env16_ok
theorem con_PortWrite0 : Con 107 [(portC, true), ([.cr 0 0], false), ([.ci], false)] (.tt [(portC, true), ([.cb], false)]) := con_fn env17_ok (hints := []) (fuel := 200) Try.func107 (by kernel_rfl) (by kernel_rfl)
def env18 : Env := (107, [(portC, true), ([.cr 0 0], false), ([.ci], false)], (.tt [(portC, true), ([.cb], false)])) :: env17
theorem env18_ok : EnvOk env18 := EnvOk.add con_PortWrite0 rfl env17_ok
theorem con_l21Line : Con 90 [(drvC, true)] (.tv drvC true) := con_fn env18_ok (hints := []) (fuel := 200) Try.func90 (by kernel_rfl) (by kernel_rfl)
def env19 : Env := (90, [(drvC, true)], (.tv drvC true)) :: env18
theorem env19_ok : EnvOk env19 := EnvOk.add con_l21Line rfl env18_ok
theorem con_l21Byte : Con 93 [(drvC, true)] (.tv drvC true) := con_fn env19_ok (hints := [(3, 1, 18, 32)]) (fuel := 200) Try.func93 (by kernel_rfl) (by kernel_rfl)
def env20 : Env := (93, [(drvC, true)], (.tv drvC true)) :: env19
theorem env20_ok : EnvOk env20 := EnvOk.add con_l21Byte rfl env19_ok
theorem con_l21Empty : Con 91 [(drvC, true)] (.tv drvC true) := con_fn env20_ok (hints := [(4, 1, 19, 1)]) (fuel := 200) Try.func91 (by kernel_rfl) (by kernel_rfl)
def env21 : Env := (91, [(drvC, true)], (.tv drvC true)) :: env20
theorem env21_ok : EnvOk env21 := EnvOk.add con_l21Empty rfl env20_ok
theorem con_l21Serve : Con 78 [(drvC, true)] (.tt [(drvC, true), ([.ci], false)]) := con_fn env21_ok (hints := []) (fuel := 200) Try.func78 (by kernel_rfl) (by kernel_rfl)
def env22 : Env := (78, [(drvC, true)], (.tt [(drvC, true), ([.ci], false)])) :: env21
theorem env22_ok : EnvOk env22 := EnvOk.add con_l21Serve rfl env21_ok
theorem con_l23Step : Con 58 [(linkC, true)] (.tv linkC true) := con_fn env22_ok (hints := []) (fuel := 200) Try.func58 (by kernel_rfl) (by kernel_rfl)
def env23 : Env := (58, [(linkC, true)], (.tv linkC true)) :: env22
theorem env23_ok : EnvOk env23 := EnvOk.add con_l23Step rfl env22_ok
theorem con_LinkRun : Con 34 [(linkC, true), ([.cr 0 19], false)] (.tt [(linkC, true), ([.cb], false)]) := con_fn env23_ok (hints := []) (fuel := 200) Try.func34 (by kernel_rfl) (by kernel_rfl)
def env24 : Env := (34, [(linkC, true), ([.cr 0 19], false)], (.tt [(linkC, true), ([.cb], false)])) :: env23
theorem env24_ok : EnvOk env24 := EnvOk.add con_LinkRun rfl env23_ok
theorem con_PortNew : Con 74 [([.ci], false), ([.ci], false)] (.tt [(portC, true), ([.cb], false)]) := con_fn env24_ok (hints := []) (fuel := 200) Try.func74 (by kernel_rfl) (by kernel_rfl)
def env25 : Env := (74, [([.ci], false), ([.ci], false)], (.tt [(portC, true), ([.cb], false)])) :: env24
theorem env25_ok : EnvOk env25 := EnvOk.add con_PortNew rfl env24_ok
theorem con_DriverNew : Con 55 [([.ci], false), ([.ci], false)] (.tt [(driverC 0 32 0 0, true), ([.cb], false)]) := con_fn env25_ok (hints := []) (fuel := 200) Try.func55 (by kernel_rfl) (by kernel_rfl)
def env26 : Env := (55, [([.ci], false), ([.ci], false)], (.tt [(driverC 0 32 0 0, true), ([.cb], false)])) :: env25
theorem env26_ok : EnvOk env26 := EnvOk.add con_DriverNew rfl env25_ok
theorem con_DriverSend : Con 56 [(driverC 0 32 0 0, true), ([sC 0 11], false)] (.tt [(drvC, true), ([.cb], false)]) := con_fn env26_ok (hints := []) (fuel := 200) Try.func56 (by kernel_rfl) (by kernel_rfl)
def env27 : Env := (56, [(driverC 0 32 0 0, true), ([sC 0 11], false)], (.tt [(drvC, true), ([.cb], false)])) :: env26
theorem env27_ok : EnvOk env27 := EnvOk.add con_DriverSend rfl env26_ok
end Go.Proofs.Ytdnjdbafffifeaa

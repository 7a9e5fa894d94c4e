/- Plain facts and contracts of functions of the program, out of walks. Their conditions stand ahead of each. -/
import Derived.Test.YtjdnpkicdmapnaaGreatDoorNm9
import Derived.Below
import Derived.BigQuiet
import Derived.Deep.Draws
import Derived.Deep.LoopGhost
import Derived.Deep.QuietTactic
import Derived.Deep.RegionHeld3
import Derived.LaidEql
import Derived.Laws.NewBlocks
import Derived.Laws.OwnMore
import Derived.Laws.Pointers
import Derived.Laws.Rows
import Derived.Lib.Hide
import Derived.RangeFuncNested
import Derived.RowKit3
import Derived.RowKitTokens
import Derived.Shelf.Spec.TrailingZeros
import Derived.StillTactics
import Derived.StillTailTactics
import Derived.Stop.Asserts
import Derived.Test.YtjdnpkicdmapnaaGreatDoorProg
import Derived.WalkKit
import Derived.WalkLawsBesides
import Derived.WalkMore
import Derived.WalkSpells
set_option linter.unusedVariables false
set_option linter.unusedSimpArgs false
namespace Go.Proofs.YtjdnpkicdmapnaaGreatDoor
open Go.RowKit Go.Extern.Stop Go.Stop Go.Extern GW NL
theorem as_nil (t : Value) (w : World) :
    Calls Tryz.prog 69 #[.nilIface, t] w fun e w' => e = .returned (.bool false) ∧ w' = w := by
  go_enter Tryz.func69, Tryz.ntmps69
  go_wp2
  go_ret
  exact ⟨rfl, rfl⟩
theorem valueOfP (t : Addr) (w : World) : (ReflectliteValue.unpack (.iface 85 (.pointer (some t)))).run Tryz.prog w
    = .ok (.agg #[.pointer (some ⟨4, 85, none⟩), .pointer (some ⟨w.heap.size, 0, none⟩), .int .u64 150]) (w.alloc (.cells #[.pointer (some t)] 85)) := by kernel_rfl
theorem typeP (a : Addr) (w : World) : (ReflectliteValue.methodAny (ReflectliteValue.valueError "reflectlite.Value.Type" 0) (fun t _ _ _ => ReflectliteType.toType t) #[.agg #[.pointer (some ⟨4, 85, none⟩), .pointer (some a), .int .u64 150]]).run Tryz.prog w
    = .ok (.iface 145 (.agg #[.pointer (some ⟨4, 85, none⟩)])) w := by kernel_rfl
theorem methodKind (h : Value) (w : World) : (Go.method 309 145 (.agg #[h]) "Kind").run Tryz.prog w = .ok (174, h) w := by kernel_rfl
theorem kindP (w : World) : ((ReflectliteType.abiMethod fun t => (fun a : Nat => Value.int IntKind.u8 (a : Int)) <$> Rtype.kind t) #[.pointer (some ⟨4, 85, none⟩)]).run Tryz.prog w = .ok (.int .u8 22) w := by kernel_rfl
theorem kindE (w : World) : ((ReflectliteType.abiMethod fun t => (fun a : Nat => Value.int IntKind.u8 (a : Int)) <$> Rtype.kind t) #[.pointer (some ⟨4, 83, none⟩)]).run Tryz.prog w = .ok (.int .u8 25) w := by kernel_rfl
theorem rlm (z : Sem Value) (f : TypeId → Addr → Nat → Nat → Sem Value) (v : Value) :
    ReflectliteValue.method z f #[v] = (do match ← ReflectliteValue.parts v with | none => z | some (t, a, fl) => f t a fl (fl % 32)) := rfl
theorem partsP (a : Addr) (w : World) : (ReflectliteValue.parts (.agg #[.pointer (some ⟨4, 85, none⟩), .pointer (some a), .int .u64 150])).run Tryz.prog w = .ok (some (85, a, 150)) w := by kernel_rfl
theorem isNilP (a p : Addr) (W : World) (ha : W.cell? a = some (.pointer (some p))) :
    (ReflectliteValue.method (ReflectliteValue.valueError "reflectlite.Value.IsNil" 0) ReflectliteValue.isNil #[.agg #[.pointer (some ⟨4, 85, none⟩), .pointer (some a), .int .u64 150]]).run Tryz.prog W = .ok (.bool false) W := by
  rw [rlm]
  simp only [Sem.run_bind, partsP, Result.andThen]
  simp [ReflectliteValue.isNil, loadVar, isAgg, underlying, Tryz.underlying85, ha, Result.andThen]
theorem methodElem (h : Value) (w : World) : (Go.method 309 145 (.agg #[h]) "Elem").run Tryz.prog w = .ok (185, .agg #[h]) w := by kernel_rfl
theorem methodImplements (h : Value) (w : World) : (Go.method 309 145 (.agg #[h]) "Implements").run Tryz.prog w = .ok (186, .agg #[h]) w := by kernel_rfl
theorem methodAssignableTo (h : Value) (w : World) : (Go.method 309 145 (.agg #[h]) "AssignableTo").run Tryz.prog w = .ok (183, .agg #[h]) w := by kernel_rfl
theorem elemP (w : World) : (ReflectliteType.method ReflectliteType.elem #[.agg #[.pointer (some ⟨4, 85, none⟩)]]).run Tryz.prog w = .ok (.iface 145 (.agg #[.pointer (some ⟨4, 83, none⟩)])) w := by kernel_rfl
theorem implementsE (w : World) : (ReflectliteType.relation "Implements" ReflectliteType.implements_ #[.agg #[.pointer (some ⟨4, 83, none⟩)], .iface 145 (.agg #[.pointer (some ⟨4, 79, none⟩)])]).run Tryz.prog w = .ok (.bool true) w := by kernel_rfl
theorem typeOfE (v : Value) (w : World) : (ReflectliteType.typeOf #[.iface 83 v]).run Tryz.prog w = .ok (.iface 145 (.agg #[.pointer (some ⟨4, 83, none⟩)])) w := by kernel_rfl
theorem assignableE (w : World) : (ReflectliteType.relation "AssignableTo" ReflectliteType.assignableTo #[.agg #[.pointer (some ⟨4, 83, none⟩)], .iface 145 (.agg #[.pointer (some ⟨4, 83, none⟩)])]).run Tryz.prog w = .ok (.bool true) w := by kernel_rfl
theorem valueOfE (x y : Int) (w : World) : (ReflectliteValue.unpack (.iface 83 (.agg #[.int .i64 x, .int .i64 y]))).run Tryz.prog w
    = .ok (.agg #[.pointer (some ⟨4, 83, none⟩), .pointer (some ⟨w.heap.size, 0, none⟩), .int .u64 153]) (w.alloc (.cells #[.int .i64 x, .int .i64 y] 83)) := by kernel_rfl
theorem elemOfP (w : World) : (Rtype.elem? 85).run Tryz.prog w = .ok (some 83) w := by kernel_rfl
theorem mkE (p : Addr) (w : World) : (ReflectliteValue.mk 83 p ReflectliteValue.flagAddr).run Tryz.prog w = .ok (.agg #[.pointer (some ⟨4, 83, none⟩), .pointer (some p), .int .u64 409]) w := by kernel_rfl
theorem elemVP (a p : Addr) (W : World) (ha : W.cell? a = some (.pointer (some p))) :
    (ReflectliteValue.method (ReflectliteValue.valueError "reflectlite.Value.Elem" 0) ReflectliteValue.elem #[.agg #[.pointer (some ⟨4, 85, none⟩), .pointer (some a), .int .u64 150]]).run Tryz.prog W
      = .ok (.agg #[.pointer (some ⟨4, 83, none⟩), .pointer (some p), .int .u64 409]) W := by
  rw [rlm]
  simp only [Sem.run_bind, partsP, Result.andThen]
  simp [ReflectliteValue.elem, loadVar, isAgg, underlying, Tryz.underlying85, ha, Result.andThen, elemOfP, mkE]
theorem rls (v x : Value) : ReflectliteValue.set #[v, x] = (do
    let (some (dst, a, fl), some (src, b, _)) := (← ReflectliteValue.parts v, ← ReflectliteValue.parts x)
      | unsupported (.noEntry "extern/(internal/reflectlite.Value).Set.zeroValue")
    if fl / ReflectliteValue.flagAddr % 2 == 0 then unsupported (.noEntry "extern/(internal/reflectlite.Value).Set.unaddressable")
    let val ← loadVar src b
    if ← Rtype.directlyAssignable dst src then storeVar dst a val
    else if ← Rtype.implements dst src then
      if (← Rtype.kind src) == 20 then
        match val with
        | .nilIface => unsupported (.noEntry "extern/reflectlite: a nil value of one interface type handed on as a value of another")
        | _ => storeVar dst a val
      else storeVar dst a (.iface src val)
    else panicString ("reflectlite.Set: value of type " ++ (← Rtype.spelt src) ++ " is not assignable to type " ++ (← Rtype.spelt dst))
    pure (.tuple #[])) := rfl
theorem partsEa (a : Addr) (w : World) : (ReflectliteValue.parts (.agg #[.pointer (some ⟨4, 83, none⟩), .pointer (some a), .int .u64 409])).run Tryz.prog w = .ok (some (83, a, 409)) w := by kernel_rfl
theorem partsE (a : Addr) (w : World) : (ReflectliteValue.parts (.agg #[.pointer (some ⟨4, 83, none⟩), .pointer (some a), .int .u64 153])).run Tryz.prog w = .ok (some (83, a, 153)) w := by kernel_rfl
theorem directE (w : World) : (Rtype.directlyAssignable 83 83).run Tryz.prog w = .ok true w := by kernel_rfl
theorem sizeE (w : World) : (sizeOf 83).run Tryz.prog w = .ok 2 w := by kernel_rfl
theorem isAggE (w : World) : (isAgg 83).run Tryz.prog w = .ok true w := by kernel_rfl
section
variable {w0 : World} {X : List Nat} {M : List Blk} {I : List Frag}
theorem isNilG {x0 : Blk} {b : Nat} {p : Addr} (g : G w0 X (x0 :: (b, 85, [.pointer (some p)]) :: M) I) :
    (ReflectliteValue.method (ReflectliteValue.valueError "reflectlite.Value.IsNil" 0) ReflectliteValue.isNil #[.agg #[.pointer (some ⟨4, 85, none⟩), .pointer (some ⟨b, 0, none⟩), .int .u64 150]]).run Tryz.prog g.w = .ok (.bool false) g.w := isNilP _ _ _ (g.cell1 0)
theorem elemG {x0 x1 : Blk} {b : Nat} {p : Addr} (g : G w0 X (x0 :: x1 :: (b, 85, [.pointer (some p)]) :: M) I) :
    (ReflectliteValue.method (ReflectliteValue.valueError "reflectlite.Value.Elem" 0) ReflectliteValue.elem #[.agg #[.pointer (some ⟨4, 85, none⟩), .pointer (some ⟨b, 0, none⟩), .int .u64 150]]).run Tryz.prog g.w
      = .ok (.agg #[.pointer (some ⟨4, 83, none⟩), .pointer (some p), .int .u64 409]) g.w := elemVP _ _ _ (g.cell2 0)
theorem setG {x1 x2 x3 : Blk} {b t : Nat} {x y o1 o2 : Int} (g : G w0 X ((b, 83, [.int .i64 x, .int .i64 y]) :: x1 :: x2 :: x3 :: (t, 83, [.int .i64 o1, .int .i64 o2]) :: M) I) :
    (ReflectliteValue.set #[.agg #[.pointer (some ⟨4, 83, none⟩), .pointer (some ⟨t, 0, none⟩), .int .u64 409], .agg #[.pointer (some ⟨4, 83, none⟩), .pointer (some ⟨b, 0, none⟩), .int .u64 153]]).run Tryz.prog g.w
      = .ok (.tuple #[]) (((g.st4 0 (.int .i64 x)).mark).st4 1 (.int .i64 y)).mark.w := by
  rw [rls]
  simp only [Sem.run_bind, partsEa, partsE, Result.andThen]
  simp [ReflectliteValue.flagAddr, loadVar, isAggE, sizeE, loadCells, Result.andThen, directE, storeVar, Value.cells, storeCells, Addr.add, go_sem]
end
set_option maxRecDepth 20000 in
set_option maxHeartbeats 4000000 in
theorem as_hit (bt : Nat) (x y o1 o2 : Int) (w : World) (hb : w.heap[bt]? = some (.cells [Value.int .i64 o1, Value.int .i64 o2].toArray 83 (0, 0))) (hg : w.cell? ⟨0, 0, none⟩ = some (.iface 145 (.agg #[.pointer (some ⟨4, 79, none⟩)]))) :
    Calls Tryz.prog 69 #[.iface 83 (.agg #[.int .i64 x, .int .i64 y]), .iface 85 (.pointer (some ⟨bt, 0, none⟩))] w fun e w' => e = .returned (.bool true) ∧ Chg [bt] w w' ∧ w'.heap[bt]? = some (.cells [Value.int .i64 x, Value.int .i64 y].toArray 83 (0, 0)) := by
  refine calls_m hb fun g => ?_
  have h6 := @run_callFunc_extern Tryz.prog 108 _ (fun args => ReflectliteValue.unpack (args.getD 0 (.tuple #[]))) Tryz.func108 (by kernel_rfl) (by kernel_rfl) (by kernel_rfl) (by kernel_rfl)
  have h7 := @run_callFunc_extern Tryz.prog 109 _ (ReflectliteValue.methodAny (ReflectliteValue.valueError "reflectlite.Value.Type" 0) (fun t _ _ _ => ReflectliteType.toType t)) Tryz.func109 (by kernel_rfl) (by kernel_rfl) (by kernel_rfl) (by kernel_rfl)
  have h8 := @run_callFunc_extern Tryz.prog 110 _ (ReflectliteValue.method (ReflectliteValue.valueError "reflectlite.Value.IsNil" 0) ReflectliteValue.isNil) Tryz.func110 (by kernel_rfl) (by kernel_rfl) (by kernel_rfl) (by kernel_rfl)
  have h27 := @run_callFunc_extern Tryz.prog 174 _ (ReflectliteType.abiMethod fun t => do pure (.int .u8 (← Rtype.kind t))) Tryz.func174 (by kernel_rfl) (by kernel_rfl) (by kernel_rfl) (by kernel_rfl)
  have h37 := @run_callFunc_extern Tryz.prog 185 _ (ReflectliteType.method ReflectliteType.elem) Tryz.func185 (by kernel_rfl) (by kernel_rfl) (by kernel_rfl) (by kernel_rfl)
  have h38 := @run_callFunc_extern Tryz.prog 186 _ (ReflectliteType.relation "Implements" ReflectliteType.implements_) Tryz.func186 (by kernel_rfl) (by kernel_rfl) (by kernel_rfl) (by kernel_rfl)
  have h10 := @run_callFunc_extern Tryz.prog 134 _ ReflectliteType.typeOf Tryz.func134 (by kernel_rfl) (by kernel_rfl) (by kernel_rfl) (by kernel_rfl)
  have h35 := @run_callFunc_extern Tryz.prog 183 _ (ReflectliteType.relation "AssignableTo" ReflectliteType.assignableTo) Tryz.func183 (by kernel_rfl) (by kernel_rfl) (by kernel_rfl) (by kernel_rfl)
  have h11 := @run_callFunc_extern Tryz.prog 135 _ (ReflectliteValue.method (ReflectliteValue.valueError "reflectlite.Value.Elem" 0) ReflectliteValue.elem) Tryz.func135 (by kernel_rfl) (by kernel_rfl) (by kernel_rfl) (by kernel_rfl)
  have h12 := @run_callFunc_extern Tryz.prog 136 _ ReflectliteValue.set Tryz.func136 (by kernel_rfl) (by kernel_rfl) (by kernel_rfl) (by kernel_rfl)
  have tO := typeOfE
  have mA := methodAssignableTo
  have a25 := assignableE
  have v25 := valueOfE
  have f6 := valueOfP
  have f7 := typeP
  have mK := methodKind
  have mE := methodElem
  have mI := methodImplements
  have k27 := kindP
  have k25 := kindE
  have e27 := elemP
  have i25 := implementsE
  have n8 := @isNilG
  have el := @elemG
  have st := @setG
  have hgg : ∀ (M : List Blk) (g : G w [bt] M [heapBut w bt]), g.w.cell? ⟨0, 0, none⟩ = some (.iface 145 (.agg #[.pointer (some ⟨4, 79, none⟩)])) := fun M g => by
    have hne : 0 ≠ bt := by
      rintro rfl
      simp [World.cell?, hb] at hg
    cases ho : w.heap[0]? with
    | none => simp [World.cell?, ho] at hg
    | some o =>
      have h1 : heapBut w bt 0 = some o := by unfold heapBut; rw [if_neg hne]; exact ho
      have h2 := g.sub (heapBut w bt) (List.mem_singleton.2 rfl) 0 o h1
      rw [← hg]
      exact World.cell?_of_block (h2.trans ho.symm)
  go_enter Tryz.func69, Tryz.ntmps69
  go_wp2
  refine wp_loop_rounds 1 ?_
  rw [rounds_succ]
  go_wp2
  go_ret
  refine ⟨rfl, G.chg _, ?_⟩
  exact G.blk4 _
end Go.Proofs.YtjdnpkicdmapnaaGreatDoor

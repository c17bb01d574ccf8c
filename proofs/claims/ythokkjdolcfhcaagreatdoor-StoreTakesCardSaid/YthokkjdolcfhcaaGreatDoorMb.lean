/- errors.As of a fault, its target a *fault.Fault variable: by its contract (after the guide's worked example Toyas). Package fault: its functions by contract. -/
import Derived.Test.YthokkjdolcfhcaaGreatDoorProg
import Derived.Test.YthokkjdolcfhcaaGreatDoorMa
import Derived.LaidEql
import Derived.Lib.Hide
import Derived.Stop.Asserts
import Derived.RowKitTokens

set_option linter.unusedVariables false
namespace Go.Proofs.YthokkjdolcfhcaaGreatDoor
open Go.RowKit Go.Extern.Stop Go.Stop Go.Extern

/-! errors.Is of a fault and a sentinel -/
theorem isTypeOf (v : Value) (w : World) : (Extern.ReflectliteType.typeOf #[.iface 256 v]).run Tryz.prog w = .ok (.iface 232 (.agg #[.pointer (some ⟨8, 256, none⟩)])) w := by kernel_rfl
def cmpEntry : Array Value → Sem Value := Extern.ReflectliteType.method fun t => do Extern.Rtype.noPackHeld "Comparable" t; pure (.bool (← typeInfo t).comparable)
theorem isComparable (w : World) : (cmpEntry #[.agg #[.pointer (some ⟨8, 256, none⟩)]]).run Tryz.prog w = .ok (.bool true) w := by kernel_rfl
theorem isComp : (Tryz.prog.info? 256).map (·.comparable) = some true := by kernel_rfl
theorem isSize : (Tryz.prog.info? 276).map (·.size) = some 1 := by kernel_rfl
theorem noIsE (v : Value) (xT : TypeId) (w : World) : (Instr.typeAssert (.iface 256 v) xT 234 true).run Tryz.prog w = .ok (.tuple #[.nilIface, .bool false]) w := run_typeAssert_lacksB Tryz.underlying234 (by kernel_rfl) (by kernel_rfl) v xT w
theorem noUnwrapE (v : Value) (xT : TypeId) (w : World) : (Instr.typeAssert (.iface 256 v) xT 237 true).run Tryz.prog w = .ok (.tuple #[.nilIface, .bool false]) w := run_typeAssert_lacksB Tryz.underlying237 (by kernel_rfl) (by kernel_rfl) v xT w
theorem noUnwrapsE (v : Value) (xT : TypeId) (w : World) : (Instr.typeAssert (.iface 256 v) xT 238 true).run Tryz.prog w = .ok (.tuple #[.nilIface, .bool false]) w := run_typeAssert_lacksB Tryz.underlying238 (by kernel_rfl) (by kernel_rfl) v xT w
theorem noIsF (v : Value) (xT : TypeId) (w : World) : (Instr.typeAssert (.iface 148 v) xT 234 true).run Tryz.prog w = .ok (.tuple #[.nilIface, .bool false]) w := run_typeAssert_lacksB Tryz.underlying234 (by kernel_rfl) (by kernel_rfl) v xT w
theorem hasUnwrapF (v : Value) (xT : TypeId) (w : World) : (Instr.typeAssert (.iface 148 v) xT 237 true).run Tryz.prog w = .ok (.tuple #[.iface 148 v, .bool true]) w := run_typeAssert_hasB Tryz.underlying237 (by kernel_rfl) v xT w

/-- (*Fault).Unwrap. -/
theorem unwrap_any (g : Nat) (r a : Int) (x : Value) (w : World) (h : Blk w g 150 #[.int .i64 r, .int .i64 a, x]) :
    Calls Tryz.prog 275 #[.pointer (some ⟨g, 0, none⟩)] w fun e w' => e = .returned x ∧ w = w' := by
  have h2 := h.cell 2
  simp at h2
  go_enter Tryz.func275, Tryz.ntmps275
  go_wp2
  go_ret
  exact ⟨rfl, rfl⟩

/-- How far an error is from its kind, at most. -/
def rankOf : Value → Nat
  | .iface t (.pointer (some a)) => if t = 148 then a.block + 1 else 0
  | _ => 0
/-- What errors.is looks at: the fault, or its kind. -/
def Looks (σ : Nat → Addr) (w : World) (k : Nat) (e : Value) (left : Nat) : Prop :=
  (∃ g f, e = .iface 148 (.pointer (some ⟨g, 0, none⟩)) ∧ ErC σ w g f ∧ f.k = k ∧ left = g + 1) ∨ (e = .iface 256 (.pointer (some (σ k))) ∧ left = 0)

set_option maxRecDepth 100000 in
set_option maxHeartbeats 1000000 in
theorem is_loop (σ : Nat → Addr) (b : Nat) (j : Nat) (g : Nat) (f : Flt) (w : World) (hG : Gl b σ w) (h1 : 1 ≤ j) (h7 : j ≤ 7) (hf : f.ok) (hc : ErC σ w g f) :
    Calls Tryz.prog 200 #[.iface 148 (.pointer (some ⟨g, 0, none⟩)), .iface 256 (.pointer (some (σ j))), .bool true] w fun e w' => e = .returned (.bool (decide (f.k = j))) ∧ w = w' := by
  obtain ⟨i, hi, hcmp⟩ := Option.map_eq_some_iff.1 isComp
  obtain ⟨ji, hj, hjs⟩ := Option.map_eq_some_iff.1 isSize
  have nE := noIsE
  have uE := noUnwrapE
  have vE := noUnwrapsE
  have nF := noIsF
  have uF := hasUnwrapF
  have hty := fun g' => run_eql_iface_types (P := Tryz.prog) 148 256 (.pointer (some ⟨g', 0, none⟩)) (.pointer (some (σ j))) Tryz.underlying29 (by decide) w
  have mU : ∀ (v : Value) (w : World), (Go.method 387 148 v "Unwrap").run Tryz.prog w = .ok (275, v) w := fun v w => by kernel_rfl
  go_enter Tryz.func200, Tryz.ntmps200
  go_wp2_with fail
  go_loop [0] (fun e => ∃ left, Looks σ w f.k e left) (fun e => rankOf e)
  case atStart => exact ⟨_, .inl ⟨g, f, rfl, hc, rfl, rfl⟩⟩
  case round =>
    obtain ⟨left, h | h⟩ := hrel
    · obtain ⟨g1, f1, rfl, hc1, hk0, rfl⟩ := h
      have hk : Hid (f1.k = f.k) := hk0
      clear hk0
      cases hc1 with
      | base _ k r a hb =>
        go_wp2_with (go_at_call 275; refine (unwrap_any _ _ _ _ _ hb).mono ?_; rintro e w' ⟨rfl, rfl⟩)
        exact ⟨⟨_, .inr ⟨by rw [← show k = f.k from hk], rfl⟩⟩, by simp [rankOf]⟩
      | step _ g' f' r a hb hlt hc' =>
        go_wp2_with (go_at_call 275; refine (unwrap_any _ _ _ _ _ hb).mono ?_; rintro e w' ⟨rfl, rfl⟩)
        exact ⟨⟨_, .inl ⟨g', f', rfl, hc', hk, rfl⟩⟩, by simp [rankOf]; omega⟩
    · obtain ⟨rfl, rfl⟩ := h
      by_cases hkj : f.k = j
      · have heq := run_eql_iface_ptr_same (P := Tryz.prog) w (σ j) Tryz.underlying29 Tryz.underlying256 hi hcmp hj
        obtain rfl : j = f.k := hkj.symm
        clear hkj
        go_wp2
        go_ret
        exact ⟨by simp, rfl⟩
      · obtain ⟨ca, ta, ha⟩ := hG.sent _ hf.1 hf.2
        obtain ⟨cb, tb, hb⟩ := hG.sent _ h1 h7
        have heq := run_eql_iface_ptr_other (P := Tryz.prog) w Tryz.underlying29 Tryz.underlying256 hi hcmp hj (by rw [hjs]; decide) (hG.ne _ _ hf.1 hf.2 h1 h7 hkj) ha hb
        clear ha hb
        go_wp2
        go_ret
        exact ⟨by simp [hkj], rfl⟩

theorem is_any (σ : Nat → Addr) (b : Nat) (j : Nat) (g : Nat) (f : Flt) (w : World) (hG : Gl b σ w) (h1 : 1 ≤ j) (h7 : j ≤ 7) (hf : f.ok) (hc : ErC σ w g f) :
    Calls Tryz.prog 127 #[.iface 148 (.pointer (some ⟨g, 0, none⟩)), .iface 256 (.pointer (some (σ j)))] w fun e w' => e = .returned (.bool (decide (f.k = j))) ∧ w = w' := by
  have h8 := @run_callFunc_extern Tryz.prog 199 _ Extern.ReflectliteType.typeOf Tryz.func199 (by kernel_rfl) (by kernel_rfl) (by kernel_rfl) (by kernel_rfl)
  have h32 := @run_callFunc_extern Tryz.prog 281 _ cmpEntry Tryz.func281 (by kernel_rfl) (by kernel_rfl) (by kernel_rfl) (by kernel_rfl)
  have tT := isTypeOf
  have cT := isComparable
  have mR : ∀ (v : Value) (w : World), (Go.method 387 232 v "Comparable").run Tryz.prog w = .ok (281, v) w := fun v w => by kernel_rfl
  have HL := Lib.hid (is_loop σ b j g f w hG h1 h7 hf hc)
  go_enter Tryz.func127, Tryz.ntmps127
  go_wp2_with (go_at_call 200; refine HL.out.mono ?_; rintro e w' ⟨rfl, rfl⟩)
  go_ret
  exact ⟨rfl, rfl⟩
end Go.Proofs.YthokkjdolcfhcaaGreatDoor

set_option linter.unusedVariables false
namespace Go.Proofs.YthokkjdolcfhcaaGreatDoor
open Go.RowKit Go.Extern.Stop Go.Stop Go.Extern

/-! ### CLOSED FACTS ON THE MODEL's ENTRIES FOR internal/reflectlite, at this program's types: 25: *p.E · 27: **p.E · 23: error · 45: reflectlite's rtype · 1: how many package-level variables the dump has -/
theorem as_valueOf27 (t : Addr) (w : World) : (ReflectliteValue.unpack (.iface 157 (.pointer (some t)))).run Tryz.prog w
    = .ok (.agg #[.pointer (some ⟨8, 157, none⟩), .pointer (some ⟨w.heap.size, 0, none⟩), .int .u64 150]) (w.alloc (.cells #[.pointer (some t)] 157)) := by kernel_rfl
theorem as_type27 (a : Addr) (w : World) : (ReflectliteValue.methodAny (ReflectliteValue.valueError "reflectlite.Value.Type" 0) (fun t _ _ _ => ReflectliteType.toType t) #[.agg #[.pointer (some ⟨8, 157, none⟩), .pointer (some a), .int .u64 150]]).run Tryz.prog w
    = .ok (.iface 232 (.agg #[.pointer (some ⟨8, 157, none⟩)])) w := by kernel_rfl
theorem as_methodKind (h : Value) (w : World) : (Go.method 387 232 (.agg #[h]) "Kind").run Tryz.prog w = .ok (271, h) w := by kernel_rfl
theorem as_kind27 (w : World) : ((ReflectliteType.abiMethod fun t => (fun a : Nat => Value.int IntKind.u8 (a : Int)) <$> Rtype.kind t) #[.pointer (some ⟨8, 157, none⟩)]).run Tryz.prog w = .ok (.int .u8 22) w := by kernel_rfl
theorem as_kind25 (w : World) : ((ReflectliteType.abiMethod fun t => (fun a : Nat => Value.int IntKind.u8 (a : Int)) <$> Rtype.kind t) #[.pointer (some ⟨8, 148, none⟩)]).run Tryz.prog w = .ok (.int .u8 22) w := by kernel_rfl

/-! ### THE ENTRIES THAT READ OR WRITE MEMORY: laws with a premise on the cell (after Derived/Lib/ReflectliteSlice.lean's manner: each unfolding a lemma of its own, by rfl) -/
theorem rlm (z : Sem Value) (f : TypeId → Addr → Nat → Nat → Sem Value) (v : Value) :
    ReflectliteValue.method z f #[v] = (do match ← ReflectliteValue.parts v with | none => z | some (t, a, fl) => f t a fl (fl % 32)) := rfl
theorem as_parts27 (a : Addr) (w : World) : (ReflectliteValue.parts (.agg #[.pointer (some ⟨8, 157, none⟩), .pointer (some a), .int .u64 150])).run Tryz.prog w = .ok (some (157, a, 150)) w := by kernel_rfl
/-- (Value).IsNil at the Value of a **p.E that is not nil. -/
theorem as_isNil27 (a p : Addr) (W : World) (ha : W.cell? a = some (.pointer (some p))) :
    (ReflectliteValue.method (ReflectliteValue.valueError "reflectlite.Value.IsNil" 0) ReflectliteValue.isNil #[.agg #[.pointer (some ⟨8, 157, none⟩), .pointer (some a), .int .u64 150]]).run Tryz.prog W = .ok (.bool false) W := by
  rw [rlm]
  simp only [Sem.run_bind, as_parts27, Result.andThen]
  simp [ReflectliteValue.isNil, loadVar, isAgg, underlying, Tryz.underlying157, ha, Result.andThen]

theorem as_methodElem (h : Value) (w : World) : (Go.method 387 232 (.agg #[h]) "Elem").run Tryz.prog w = .ok (282, .agg #[h]) w := by kernel_rfl
theorem as_methodImplements (h : Value) (w : World) : (Go.method 387 232 (.agg #[h]) "Implements").run Tryz.prog w = .ok (283, .agg #[h]) w := by kernel_rfl
theorem as_methodAssignableTo (h : Value) (w : World) : (Go.method 387 232 (.agg #[h]) "AssignableTo").run Tryz.prog w = .ok (280, .agg #[h]) w := by kernel_rfl
theorem as_elem27 (w : World) : (ReflectliteType.method ReflectliteType.elem #[.agg #[.pointer (some ⟨8, 157, none⟩)]]).run Tryz.prog w = .ok (.iface 232 (.agg #[.pointer (some ⟨8, 148, none⟩)])) w := by kernel_rfl
theorem as_implements25 (w : World) : (ReflectliteType.relation "Implements" ReflectliteType.implements_ #[.agg #[.pointer (some ⟨8, 148, none⟩)], .iface 232 (.agg #[.pointer (some ⟨8, 29, none⟩)])]).run Tryz.prog w = .ok (.bool true) w := by kernel_rfl
theorem as_typeOf25 (v : Value) (w : World) : (ReflectliteType.typeOf #[.iface 148 v]).run Tryz.prog w = .ok (.iface 232 (.agg #[.pointer (some ⟨8, 148, none⟩)])) w := by kernel_rfl
theorem as_assignable25 (w : World) : (ReflectliteType.relation "AssignableTo" ReflectliteType.assignableTo #[.agg #[.pointer (some ⟨8, 148, none⟩)], .iface 232 (.agg #[.pointer (some ⟨8, 148, none⟩)])]).run Tryz.prog w = .ok (.bool true) w := by kernel_rfl
theorem as_valueOf25 (e : Addr) (w : World) : (ReflectliteValue.unpack (.iface 148 (.pointer (some e)))).run Tryz.prog w
    = .ok (.agg #[.pointer (some ⟨8, 148, none⟩), .pointer (some ⟨w.heap.size, 0, none⟩), .int .u64 150]) (w.alloc (.cells #[.pointer (some e)] 148)) := by kernel_rfl

theorem as_elemOf27 (w : World) : (Rtype.elem? 157).run Tryz.prog w = .ok (some 148) w := by kernel_rfl
theorem as_mk25 (p : Addr) (w : World) : (ReflectliteValue.mk 148 p ReflectliteValue.flagAddr).run Tryz.prog w = .ok (.agg #[.pointer (some ⟨8, 148, none⟩), .pointer (some p), .int .u64 406]) w := by kernel_rfl
/-- (Value).Elem at the Value of a **p.E that is not nil: the Value of the *p.E variable that it points to, addressable. -/
theorem as_elemV27 (a p : Addr) (W : World) (ha : W.cell? a = some (.pointer (some p))) :
    (ReflectliteValue.method (ReflectliteValue.valueError "reflectlite.Value.Elem" 0) ReflectliteValue.elem #[.agg #[.pointer (some ⟨8, 157, none⟩), .pointer (some a), .int .u64 150]]).run Tryz.prog W
      = .ok (.agg #[.pointer (some ⟨8, 148, none⟩), .pointer (some p), .int .u64 406]) W := by
  rw [rlm]
  simp only [Sem.run_bind, as_parts27, Result.andThen]
  simp [ReflectliteValue.elem, loadVar, isAgg, underlying, Tryz.underlying157, ha, Result.andThen, as_elemOf27, as_mk25]
theorem rls (v x : Value) : ReflectliteValue.set #[v, x] = (do
    let (some (dst, a, fl), some (src, b, _)) := (← ReflectliteValue.parts v, ← ReflectliteValue.parts x)
      | unsupported (.noEntry "extern/(internal/reflectlite.Value).Set.zeroValue")
    if fl / ReflectliteValue.flagAddr % 2 == 0 then unsupported (.noEntry "extern/(internal/reflectlite.Value).Set.unaddressable")
    let val ← loadVar src b
    if ← Rtype.directlyAssignable dst src then storeVar dst a val
    else if ← Rtype.implements dst src then
      if (← Rtype.kind src) == 20 then
        match val with
        | .nilIface => unsupported (.noEntry "extern/reflectlite: a nil value of one interface type handed on as a value of another")
        | _ => storeVar dst a val
      else storeVar dst a (.iface src val)
    else panicString ("reflectlite.Set: value of type " ++ (← Rtype.spelt src) ++ " is not assignable to type " ++ (← Rtype.spelt dst))
    pure (.tuple #[])) := rfl
theorem as_parts25a (a : Addr) (w : World) : (ReflectliteValue.parts (.agg #[.pointer (some ⟨8, 148, none⟩), .pointer (some a), .int .u64 406])).run Tryz.prog w = .ok (some (148, a, 406)) w := by kernel_rfl
theorem as_parts25 (a : Addr) (w : World) : (ReflectliteValue.parts (.agg #[.pointer (some ⟨8, 148, none⟩), .pointer (some a), .int .u64 150])).run Tryz.prog w = .ok (some (148, a, 150)) w := by kernel_rfl
theorem as_direct25 (w : World) : (Rtype.directlyAssignable 148 148).run Tryz.prog w = .ok true w := by kernel_rfl
theorem as_size25 (w : World) : (sizeOf 148).run Tryz.prog w = .ok 1 w := by kernel_rfl
/-- (Value).Set: the *p.E variable at 'ta' gets what the Value's own variable 'b' holds. -/
theorem as_set25 (ta b e : Addr) (old : Value) (W : World) (hb : W.cell? b = some (.pointer (some e))) (ht : W.cell? ta = some old) (hf : W.frozen? ta = false) :
    (ReflectliteValue.set #[.agg #[.pointer (some ⟨8, 148, none⟩), .pointer (some ta), .int .u64 406], .agg #[.pointer (some ⟨8, 148, none⟩), .pointer (some b), .int .u64 150]]).run Tryz.prog W
      = .ok (.tuple #[]) (W.setCell ta (.pointer (some e))) := by
  rw [rls]
  simp only [Sem.run_bind, as_parts25a, as_parts25, Result.andThen]
  simp [ReflectliteValue.flagAddr, loadVar, isAgg, underlying, Tryz.underlying148, hb, Result.andThen, as_direct25, storeVar, Value.cells, storeCells, Addr.add]
  rw [run_store Tryz.prog W ta _ _ (by rfl)]
  simp [ht, hf]

set_option maxHeartbeats 4000000 in
theorem as_hit (e t : Addr) (old : Value) (w : World) (hg : w.cell? ⟨7, 0, none⟩ = some (.iface 232 (.agg #[.pointer (some ⟨8, 29, none⟩)]))) (ht0 : w.cell? t = some old) (hf0 : w.frozen? t = false) :
    Calls Tryz.prog 148 #[.iface 148 (.pointer (some e)), .iface 157 (.pointer (some t))] w fun ev w' => ev = .returned (.bool true) ∧ w' = ((((w.alloc (.cells #[.pointer (some t)] 157)).alloc (.cells #[.pointer (some ⟨8, 157, none⟩), .pointer (some ⟨w.heap.size, 0, none⟩), .int .u64 150] 211)).alloc (.cells #[.pointer (some ⟨8, 157, none⟩), .pointer (some ⟨w.heap.size, 0, none⟩), .int .u64 150] 211)).alloc (.cells #[.pointer (some e)] 148)).setCell t (.pointer (some e)) := by
  have h6 := @run_callFunc_extern Tryz.prog 208 _ (fun args => ReflectliteValue.unpack (args.getD 0 (.tuple #[]))) Tryz.func208 (by kernel_rfl) (by kernel_rfl) (by kernel_rfl) (by kernel_rfl)
  have h7 := @run_callFunc_extern Tryz.prog 209 _ (ReflectliteValue.methodAny (ReflectliteValue.valueError "reflectlite.Value.Type" 0) (fun t _ _ _ => ReflectliteType.toType t)) Tryz.func209 (by kernel_rfl) (by kernel_rfl) (by kernel_rfl) (by kernel_rfl)
  have h8 := @run_callFunc_extern Tryz.prog 210 _ (ReflectliteValue.method (ReflectliteValue.valueError "reflectlite.Value.IsNil" 0) ReflectliteValue.isNil) Tryz.func210 (by kernel_rfl) (by kernel_rfl) (by kernel_rfl) (by kernel_rfl)
  have h27 := @run_callFunc_extern Tryz.prog 271 _ (ReflectliteType.abiMethod fun t => do pure (.int .u8 (← Rtype.kind t))) Tryz.func271 (by kernel_rfl) (by kernel_rfl) (by kernel_rfl) (by kernel_rfl)
  have h37 := @run_callFunc_extern Tryz.prog 282 _ (ReflectliteType.method ReflectliteType.elem) Tryz.func282 (by kernel_rfl) (by kernel_rfl) (by kernel_rfl) (by kernel_rfl)
  have h38 := @run_callFunc_extern Tryz.prog 283 _ (ReflectliteType.relation "Implements" ReflectliteType.implements_) Tryz.func283 (by kernel_rfl) (by kernel_rfl) (by kernel_rfl) (by kernel_rfl)
  have h10 := @run_callFunc_extern Tryz.prog 199 _ ReflectliteType.typeOf Tryz.func199 (by kernel_rfl) (by kernel_rfl) (by kernel_rfl) (by kernel_rfl)
  have h35 := @run_callFunc_extern Tryz.prog 280 _ (ReflectliteType.relation "AssignableTo" ReflectliteType.assignableTo) Tryz.func280 (by kernel_rfl) (by kernel_rfl) (by kernel_rfl) (by kernel_rfl)
  have h11 := @run_callFunc_extern Tryz.prog 237 _ (ReflectliteValue.method (ReflectliteValue.valueError "reflectlite.Value.Elem" 0) ReflectliteValue.elem) Tryz.func237 (by kernel_rfl) (by kernel_rfl) (by kernel_rfl) (by kernel_rfl)
  have h12 := @run_callFunc_extern Tryz.prog 238 _ ReflectliteValue.set Tryz.func238 (by kernel_rfl) (by kernel_rfl) (by kernel_rfl) (by kernel_rfl)
  have tO := as_typeOf25
  have mA := as_methodAssignableTo
  have a25 := as_assignable25
  have v25 := as_valueOf25
  have f6 := as_valueOf27
  have f7 := as_type27
  have mK := as_methodKind
  have mE := as_methodElem
  have mI := as_methodImplements
  have k27 := as_kind27
  have k25 := as_kind25
  have e27 := as_elem27
  have i25 := as_implements25
  have n8 := as_isNil27 ⟨w.heap.size, 0, none⟩ t ((w.alloc (.cells #[.pointer (some t)] 157)).alloc (.cells #[.pointer (some ⟨8, 157, none⟩), .pointer (some ⟨w.heap.size, 0, none⟩), .int .u64 150] 211)) (by simp)
  have hlt : 7 < w.heap.size := by
    rcases Nat.lt_or_ge 7 w.heap.size with h | h
    · exact h
    · simp [World.cell?, Array.getElem?_eq_none h] at hg
  have hg2 : ((w.alloc (.cells #[.pointer (some t)] 157)).alloc (.cells #[.pointer (some ⟨8, 157, none⟩), .pointer (some ⟨w.heap.size, 0, none⟩), .int .u64 150] 211)).cell? ⟨7, 0, none⟩ = some (.iface 232 (.agg #[.pointer (some ⟨8, 29, none⟩)])) := by
    rw [World.cell?_alloc_lt _ _ ⟨7, 0, none⟩ (by simp; omega), World.cell?_alloc_lt _ _ ⟨7, 0, none⟩ hlt]; exact hg
  have htl : t.block < w.heap.size := by
    rcases Nat.lt_or_ge t.block w.heap.size with h | h
    · exact h
    · simp [World.cell?, Array.getElem?_eq_none h] at ht0
  have el := as_elemV27 ⟨w.heap.size, 0, none⟩ t (((w.alloc (.cells #[.pointer (some t)] 157)).alloc (.cells #[.pointer (some ⟨8, 157, none⟩), .pointer (some ⟨w.heap.size, 0, none⟩), .int .u64 150] 211)).alloc (.cells #[.pointer (some ⟨8, 157, none⟩), .pointer (some ⟨w.heap.size, 0, none⟩), .int .u64 150] 211)) (by rw [World.cell?_alloc_lt _ _ ⟨w.heap.size, 0, none⟩ (by simp; omega)]; simp)
  have st := as_set25 t ⟨w.heap.size + 1 + 1 + 1, 0, none⟩ e old ((((w.alloc (.cells #[.pointer (some t)] 157)).alloc (.cells #[.pointer (some ⟨8, 157, none⟩), .pointer (some ⟨w.heap.size, 0, none⟩), .int .u64 150] 211)).alloc (.cells #[.pointer (some ⟨8, 157, none⟩), .pointer (some ⟨w.heap.size, 0, none⟩), .int .u64 150] 211)).alloc (.cells #[.pointer (some e)] 148))
    (by rw [World.cell?_alloc_at _ _ _ _ (by simp)]; rfl)
    (by rw [World.cell?_alloc_lt _ _ t (by simp; omega), World.cell?_alloc_lt _ _ t (by simp; omega), World.cell?_alloc_lt _ _ t (by simp; omega), World.cell?_alloc_lt _ _ t htl]; exact ht0)
    (by rw [World.frozen?_alloc_old _ _ t (by simp; omega), World.frozen?_alloc_old _ _ t (by simp; omega), World.frozen?_alloc_old _ _ t (by simp; omega), World.frozen?_alloc_old _ _ t (Nat.ne_of_lt htl)]; exact hf0)
  go_enter Tryz.func148, Tryz.ntmps148
  go_wp2
  refine wp_loop_rounds 1 ?_
  rw [rounds_succ]
  go_wp2
  go_ret
  exact ⟨rfl, rfl⟩
end Go.Proofs.YthokkjdolcfhcaaGreatDoor

set_option linter.unusedVariables false
namespace Go.Proofs.YthokkjdolcfhcaaGreatDoor
open Go.RowKit

theorem ret_int {k : IntKind} {a b : Int} (h : a = b) : Ending.returned (.int k a) = .returned (.int k b) := by rw [h]
theorem flt_ok {k : Nat} {r a : Int} (h1 : 1 ≤ k) (h7 : k ≤ 7) : (⟨k, r, a⟩ : Flt).ok := ⟨h1, h7⟩
theorem hold_any (a b : Int) (w : World) (hb : 0 ≤ b) (hb2 : b ≤ 18014398509481984) :
    Calls Tryz.prog 245 #[.int .i64 a, .int .i64 b] w fun e w' => e = .returned (.int .i64 (holdS a b)) ∧ w = w' := by
  go_enter Tryz.func245, Tryz.ntmps245
  go_wp2
  all_goals
    go_ret
    refine ⟨ret_int ?_, rfl⟩
    unfold holdS
    (repeat' (split at *)) <;> omega

theorem further_any (a b : Int) (w : World) :
    Calls Tryz.prog 222 #[.int .i64 a, .int .i64 b] w fun e w' => e = .returned (.int .i64 (furtherS a b)) ∧ w = w' := by
  have b1 := holdS_bd a
  have b2 := holdS_bd b
  go_enter Tryz.func222, Tryz.ntmps222
  go_wp2_with fail
  refine (hold_any _ _ _ (by omega) (by omega)).mono ?_; rintro e w' ⟨rfl, rfl⟩
  go_wp2_with fail
  refine (hold_any _ _ _ (by omega) (by omega)).mono ?_; rintro e w' ⟨rfl, rfl⟩
  go_wp2
  all_goals
    go_ret
    refine ⟨ret_int ?_, rfl⟩
    unfold furtherS
    (repeat' (split at *)) <;> omega

/-- fault.New of a kind. -/
theorem new_any (σ : Nat → Addr) (k : Nat) (r a : Int) (w : World) (hk : 1 ≤ k) (hk7 : k ≤ 7) :
    Calls Tryz.prog 68 #[.int .i64 r, .int .i64 a, .iface 256 (.pointer (some (σ k)))] w fun e w' =>
      ∃ g, e = .returned (.iface 148 (.pointer (some ⟨g, 0, none⟩))) ∧ g = w.heap.size ∧ w' = w.alloc (.cells #[.int .i64 r, .int .i64 a, .iface 256 (.pointer (some (σ k)))] 150) := by
  go_enter Tryz.func68, Tryz.ntmps68
  go_wp2
  go_ret
  exact ⟨_, rfl, rfl, rfl⟩

theorem reason_nil (w : World) : Calls Tryz.prog 75 #[.nilIface] w fun e w' => e = .returned (.int .i64 0) ∧ w = w' := by
  go_enter Tryz.func75, Tryz.ntmps75
  go_wp2
  go_ret
  exact ⟨rfl, rfl⟩
theorem number_nil (w : World) : Calls Tryz.prog 54 #[.nilIface] w fun e w' => e = .returned (.int .i64 0) ∧ w = w' := by
  go_enter Tryz.func54, Tryz.ntmps54
  go_wp2
  go_ret
  exact ⟨rfl, rfl⟩
theorem at_nil (w : World) : Calls Tryz.prog 76 #[.nilIface] w fun e w' => e = .returned (.int .i64 0) ∧ Pure w w' := by
  go_enter Tryz.func76, Tryz.ntmps76
  go_wp2
  go_ret
  exact ⟨rfl, (Keep.refl _ _).alloc _⟩

theorem as_any (σ : Nat → Addr) (b g tg : Nat) (old : Value) (w : World) (hG : Gl b σ w) (ht : Blk w tg 148 #[old]) :
    Calls Tryz.prog 148 #[.iface 148 (.pointer (some ⟨g, 0, none⟩)), .iface 157 (.pointer (some ⟨tg, 0, none⟩))] w fun e w' =>
      e = .returned (.bool true) ∧ Blk w' tg 148 #[.pointer (some ⟨g, 0, none⟩)] ∧ Only tg w w' := by
  refine (as_hit _ _ old _ hG.et (by simpa using ht.cell 0) (ht.frozen 0)).mono ?_
  rintro e w' ⟨rfl, rfl⟩
  refine ⟨rfl, ?_, ?_⟩
  · simpa using ((((ht.alloc _).alloc _).alloc _).alloc _).set_ 0 (.pointer (some ⟨g, 0, none⟩))
  · exact ((((((Keep.refl (fun k => k = tg) w).alloc _).alloc _).alloc _).alloc _).setCell (.inl rfl) _)

theorem reason_some (σ : Nat → Addr) (b g : Nat) (f : Flt) (w : World) (hG : Gl b σ w) (hc : ErC σ w g f) :
    Calls Tryz.prog 75 #[.iface 148 (.pointer (some ⟨g, 0, none⟩))] w fun e w' => e = .returned (.int .i64 f.r) ∧ Pure w w' := by
  obtain ⟨x, hb⟩ := hc.blk
  go_enter Tryz.func75, Tryz.ntmps75
  go_wp2_with fail
  refine (as_any σ b g w.heap.size (.pointer none) _ (hG.alloc _) (Blk.new _ _ _)).mono ?_
  rintro e w' ⟨rfl, h1, h2⟩
  have c1 := h1.cell 0
  have hb2 := h2.blk (hb.alloc (.cells #[.pointer none] 148)) (by have := hb.lt; omega)
  have c2 := hb2.cell 0
  simp at c1 c2
  have HK : Hid (Pure w w') := ((Keep.refl (fun _ => False) w).alloc _).seq h2 fun i hi => .inr (by subst hi; exact Nat.le_refl _)
  clear h1 h2 hb2
  go_wp2
  go_ret
  exact ⟨rfl, HK.out⟩

theorem at_some (σ : Nat → Addr) (b g : Nat) (f : Flt) (w : World) (hG : Gl b σ w) (hc : ErC σ w g f) :
    Calls Tryz.prog 76 #[.iface 148 (.pointer (some ⟨g, 0, none⟩))] w fun e w' => e = .returned (.int .i64 f.a) ∧ Pure w w' := by
  obtain ⟨x, hb⟩ := hc.blk
  go_enter Tryz.func76, Tryz.ntmps76
  go_wp2_with fail
  refine (as_any σ b g w.heap.size (.pointer none) _ (hG.alloc _) (Blk.new _ _ _)).mono ?_
  rintro e w' ⟨rfl, h1, h2⟩
  have c1 := h1.cell 0
  have hb2 := h2.blk (hb.alloc (.cells #[.pointer none] 148)) (by have := hb.lt; omega)
  have c2 := hb2.cell 1
  simp at c1 c2
  have HK : Hid (Pure w w') := ((Keep.refl (fun _ => False) w).alloc _).seq h2 fun i hi => .inr (by subst hi; exact Nat.le_refl _)
  clear h1 h2 hb2
  go_wp2
  go_ret
  exact ⟨rfl, HK.out⟩

/-- fault.Deeper of a fault. -/
theorem deeper_some (σ : Nat → Addr) (b g : Nat) (f : Flt) (by_ : Int) (w : World) (hG : Gl b σ w) (hc : ErC σ w g f) :
    Calls Tryz.prog 170 #[.iface 148 (.pointer (some ⟨g, 0, none⟩)), .int .i64 by_] w fun e w' =>
      ∃ g', e = .returned (.iface 148 (.pointer (some ⟨g', 0, none⟩))) ∧ ErC σ w' g' ⟨f.k, f.r, furtherS f.a by_⟩ ∧ Pure w w' := by
  have HG := Lib.hid hG
  have HC := Lib.hid hc
  clear hG hc
  go_enter Tryz.func170, Tryz.ntmps170
  go_wp2_with fail
  refine (reason_some σ b g f _ HG.out HC.out).mono ?_; rintro e w1 ⟨rfl, h1⟩
  have HG1 := Lib.hid (HG.out.pure h1)
  have HC1 := Lib.hid (HC.out.keep h1 fun _ _ _ hf => hf)
  go_wp2_with fail
  refine (at_some σ b g f _ HG1.out HC1.out).mono ?_; rintro e w2 ⟨rfl, h2⟩
  have HC2 := Lib.hid (HC1.out.keep h2 fun _ _ _ hf => hf)
  have H12 := Lib.hid (h1.trans h2)
  clear h1 h2
  go_wp2_with fail
  refine (further_any _ _ _).mono ?_; rintro e w3 ⟨rfl, rfl⟩
  go_wp2
  go_ret
  refine ⟨_, rfl, .step _ g f _ _ (Blk.new _ _ _) ?_ (HC2.out.keep ((Keep.refl (fun _ => False) _).alloc _) fun _ _ _ hf => hf), H12.out.alloc _⟩
  obtain ⟨x, hb⟩ := HC2.out.blk
  exact hb.lt

theorem number_some (σ : Nat → Addr) (b g : Nat) (f : Flt) (w : World) (hG : Gl b σ w) (hf : f.ok) (hc : ErC σ w g f) :
    Calls Tryz.prog 54 #[.iface 148 (.pointer (some ⟨g, 0, none⟩))] w fun e w' => e = .returned (.int .i64 f.k) ∧ Pure w w' := by
  have c1 := hG.c1
  have c2 := hG.c2
  have c3 := hG.c3
  have c4 := hG.c4
  have c5 := hG.c5
  have c6 := hG.c6
  have c7 := hG.c7
  have HG := Lib.hid hG
  have HC := Lib.hid hc
  have HF := Lib.hid hf
  clear hG hc hf
  go_enter Tryz.func54, Tryz.ntmps54
  go_wp2_with fail
  clear c1 c2 c3 c4 c5 c6 c7
  go_loop [16] (fun i => ∃ n : Nat, n < f.k ∧ i = .int .i64 n) (fun i => 7 - (intOf i).toNat)
  case atStart => exact ⟨0, by have := HF.out.1; omega, rfl⟩
  case round =>
    obtain ⟨n, hn, rfl⟩ := hrel
    have hn7 : n = 0 ∨ n = 1 ∨ n = 2 ∨ n = 3 ∨ n = 4 ∨ n = 5 ∨ n = 6 := by have := HF.out.2; omega
    by_cases hk : f.k = n + 1
    · have hd : Hid (∀ j, j = n + 1 → decide (f.k = j) = true) := fun j hj => by simp [hk, hj]
      have HK := Lib.hid hk
      clear hk
      rcases hn7 with rfl | rfl | rfl | rfl | rfl | rfl | rfl
      all_goals
        go_wp2_with fail
        refine (is_any σ b _ g f _ (HG.out.alloc _) (by omega) (by omega) HF.out (HC.out.keep ((Keep.refl (fun _ => False) _).alloc _) fun _ _ _ hf => hf)).mono ?_
        rintro e w' ⟨rfl, rfl⟩
        rw [hd.out _ rfl]
        go_wp2
        go_ret
        exact ⟨ret_int (by have := HK.out; omega), (Keep.refl _ _).alloc _⟩
    · have hd : Hid (∀ j, j = n + 1 → decide (f.k = j) = false) := fun j hj => by simp [hk, hj]
      have hn6 : n = 0 ∨ n = 1 ∨ n = 2 ∨ n = 3 ∨ n = 4 ∨ n = 5 := by have := HF.out.2; omega
      have HK := Lib.hid hk
      clear hk hn7
      rcases hn6 with rfl | rfl | rfl | rfl | rfl | rfl
      all_goals
        go_wp2_with fail
        refine (is_any σ b _ g f _ (HG.out.alloc _) (by omega) (by omega) HF.out (HC.out.keep ((Keep.refl (fun _ => False) _).alloc _) fun _ _ _ hf => hf)).mono ?_
        rintro e w' ⟨rfl, rfl⟩
        rw [hd.out _ rfl]
        go_wp2
        go_round
        case rel =>
          have h1 := HK.out
          first
          | exact ⟨1, by omega, rfl⟩
          | exact ⟨2, by omega, rfl⟩
          | exact ⟨3, by omega, rfl⟩
          | exact ⟨4, by omega, rfl⟩
          | exact ⟨5, by omega, rfl⟩
          | exact ⟨6, by omega, rfl⟩
        case measure => simp [intOf]
end Go.Proofs.YthokkjdolcfhcaaGreatDoor

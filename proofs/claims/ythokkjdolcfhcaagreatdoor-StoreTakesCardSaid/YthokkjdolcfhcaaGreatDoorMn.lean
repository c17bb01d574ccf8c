/- Plain functions: what a journal's record tells. Package store and its reference: may a record tell so. The reference's comparisons: lists of properties, messages, what records tell. Package store: a message read. -/
import Derived.Test.YthokkjdolcfhcaaGreatDoorMf
import Derived.Test.YthokkjdolcfhcaaGreatDoorMl
import Derived.WalkLawsBesides
import Derived.Deep.QuietTactic
import Derived.BigQuiet

namespace Go.Proofs.YthokkjdolcfhcaaGreatDoor
open Go.RowKit
/-- A message. -/
structure SMsg where
  topic : ByteArray
  payload : ByteArray
  qos : Int
  retain : Bool
  props : List Pr
  from_ : ByteArray
  until_ : Int
  seq : Int
  group : ByteArray
/-- What a record tells. -/
structure SOp where
  kind : Int
  group : ByteArray
  seq : Int
  msg : SMsg
def zMsg : SMsg := ⟨noBytes, noBytes, 0, false, [], noBytes, 0, 0, noBytes⟩
/-- store.may -/
def sMay (o : SOp) : Bool :=
  decide (o.group.toList ≠ [] ∧ 1 ≤ o.seq ∧ o.seq ≤ 4294967295 ∧
    (o.kind = 1 ∧ o.msg.group.toList = o.group.toList ∧ o.msg.seq = o.seq ∧ 0 ≤ o.msg.qos ∧ o.msg.qos < 3 ∧ 0 ≤ o.msg.until_ ∧ o.msg.until_ ≤ 9007199254740992 ∨ o.kind = 2 ∨ o.kind = 3))
def sEnd (st : RS) (o : SOp) (bits : Int) : Except Flt SOp :=
  match st.done with
  | some f => .error f
  | none => if sMay o = true ∧ bits ≤ 7 then .ok o else .error ⟨2, 129, 0⟩
/-- what is read of a message, but for its properties -/
structure SRd where
  topic : ByteArray
  payload : ByteArray
  n : Nat
  from_ : ByteArray
  hi : Nat
  lo : Nat
  st : RS
def sRd (st : RS) : SRd :=
  let t := st.bin
  let p := t.2.bin
  let n := p.2.num 1
  let f := n.2.bin
  let h := f.2.num 4
  let l := h.2.num 4
  ⟨t.1, p.1, n.1, f.1, h.1, l.1, l.2⟩
def sMsg (x : SRd) (l : List Pr) (group : ByteArray) (seq : Int) : SMsg := ⟨x.topic, x.payload, x.n % 4, decide (x.n / 4 % 2 = 1), l, x.from_, wrap64 ((x.hi : Int) * 4294967296 + x.lo), seq, group⟩
def sBody (st : RS) (k : Int) (group : ByteArray) (seq : Int) : Except Flt SOp :=
  if k = 1 then
    match (pRead (sRd st).st 3).1 with
    | .error f => .error f
    | .ok l => sEnd (pRead (sRd st).st 3).2 ⟨k, group, seq, sMsg (sRd st) l group seq⟩ (sRd st).n
  else sEnd st ⟨k, group, seq, zMsg⟩ 0
/-- store.Take -/
def sTake (s : ByteArray) : Except Flt SOp :=
  let st : RS := ⟨s, 0, none⟩
  let k := st.num 1
  let g := k.2.bin
  let q := g.2.num 4
  sBody q.2 k.1 g.1 q.1
end Go.Proofs.YthokkjdolcfhcaaGreatDoor

set_option linter.unusedVariables false
namespace Go.Proofs.YthokkjdolcfhcaaGreatDoor
open Go.RowKit

/-- the cells of a message, and of what a record tells; its properties lie in a slice -/
def msgCells (m : SMsg) (v : Value) : Array Value := #[.string m.topic, .string m.payload, .int .i64 m.qos, .bool m.retain, v, .string m.from_, .int .i64 m.until_, .int .i64 m.seq, .string m.group]
def opCells (o : SOp) (v : Value) : Array Value := #[.int .i64 o.kind, .string o.group, .int .i64 o.seq, .string o.msg.topic, .string o.msg.payload, .int .i64 o.msg.qos, .bool o.msg.retain, v, .string o.msg.from_, .int .i64 o.msg.until_, .int .i64 o.msg.seq, .string o.msg.group]

set_option maxRecDepth 100000 in
set_option maxHeartbeats 4000000 in
theorem s_may (o : SOp) (A : Option Addr) (n c : Nat) (w : World) :
    Calls Tryz.prog 67 #[.agg (opCells o (.slice A n c))] w fun e w' => e = .returned (.bool (sMay o)) ∧ Pure w w' := by
  obtain ⟨k, g, s, m⟩ := o
  obtain ⟨mt, mp, mq, mr, ml, mf, mu, ms, mg⟩ := m
  simp only [opCells]
  go_enter Tryz.func67, Tryz.ntmps67
  go_wp2_with fail
  all_goals
    go_ret
    refine ⟨congrArg (fun b => Ending.returned (Value.bool b)) ?_, ?_⟩
    · rw [Bool.eq_iff_iff]
      (first | (simp_all [sMay]; done) | (simp_all [sMay]; omega))
    · repeat (first | (with_reducible refine Keep.drew ?_) | (with_reducible refine Keep.drewN ?_ _) | (with_reducible refine Keep.alloc ?_ _) | (with_reducible refine Keep.setCell ?_ (by first | (simp; done) | (simp; omega)) _))
      exact Keep.refl _ _

set_option maxRecDepth 100000 in
set_option maxHeartbeats 4000000 in
theorem q_may (o : SOp) (A : Option Addr) (n c : Nat) (w : World) :
    Calls Tryz.prog 74 #[.agg (opCells o (.slice A n c))] w fun e w' => e = .returned (.bool (sMay o)) ∧ Pure w w' := by
  obtain ⟨k, g, s, m⟩ := o
  obtain ⟨mt, mp, mq, mr, ml, mf, mu, ms, mg⟩ := m
  simp only [opCells]
  go_enter Tryz.func74, Tryz.ntmps74
  go_wp2_with fail
  all_goals
    go_ret
    refine ⟨congrArg (fun b => Ending.returned (Value.bool b)) ?_, ?_⟩
    · rw [Bool.eq_iff_iff]
      (first | (simp_all [sMay]; done) | (simp_all [sMay]; omega))
    · repeat (first | (with_reducible refine Keep.drew ?_) | (with_reducible refine Keep.drewN ?_ _) | (with_reducible refine Keep.alloc ?_ _) | (with_reducible refine Keep.setCell ?_ (by first | (simp; done) | (simp; omega)) _))
      exact Keep.refl _ _
end Go.Proofs.YthokkjdolcfhcaaGreatDoor

set_option linter.unusedVariables false
namespace Go.Proofs.YthokkjdolcfhcaaGreatDoor
open Go.RowKit

set_option maxRecDepth 100000 in
set_option maxHeartbeats 2000000 in
theorem q_props_same (A A' : Option Addr) (c c' B B' : Nat) (l : List Pr) (w : World) (hr : Reads w B 4 A l.length (prRow l)) (hr' : Reads w B' 4 A' l.length (prRow l)) (hB : B ≤ w.heap.size) (hB' : B' ≤ w.heap.size) (hl0 : l.length ≤ 140737488351232) :
    Calls Tryz.prog 89 #[.slice A l.length c, .slice A' l.length c'] w fun e w' => e = .returned (.bool true) ∧ Pure w w' := by
  have HR := Lib.hid hr
  have HR' := Lib.hid hr'
  clear hr hr'
  go_enter Tryz.func89, Tryz.ntmps89
  have hnn : ((l.length : Int) != (l.length : Int)) = false := by simp
  go_wp2_with fail
  go_loopw [5] (fun i wr => ∃ k : Nat, k ≤ l.length ∧ i = .int .i64 k ∧ Hid (Pure w wr)) (fun i _ => l.length - (intOf i).toNat)
  case atStart => exact ⟨0, by omega, rfl, Keep.refl _ _⟩
  case round =>
    obtain ⟨k, hk, rfl, HP⟩ := hrel
    by_cases hlt : k < l.length
    · obtain ⟨ad, rfl, _, d0, d1, d2, d3⟩ := (HR.out.pure HP.out hB).pr k hlt
      obtain ⟨ad', rfl, _, e0, e1, e2, e3⟩ := (HR'.out.pure HP.out hB').pr k hlt
      generalize l[k] = p at *
      have hi : (k : Int) < (l.length : Int) := by omega
      go_wp2_with fail
      go_quiet (fail)
      have HP2 : Hid (Pure w (wr.drewN nq)) := HP.out.drewN nq
      go_wp2_with fail
      go_roundw
      case rel => exact ⟨k + 1, by omega, by go_num, HP2⟩
      case measure => simp [intOf]; omega
    · obtain rfl : k = l.length := by omega
      clear hlt
      go_wp2_with fail
      go_ret
      exact ⟨rfl, HP.out⟩

theorem bytes_beq (s : ByteArray) : (s.toList == s.toList) = true := by simp
set_option maxRecDepth 100000 in
set_option maxHeartbeats 2000000 in
theorem q_msg_same (m : SMsg) (A A' : Option Addr) (c c' B B' : Nat) (w : World) (hr : Reads w B 4 A m.props.length (prRow m.props)) (hr' : Reads w B' 4 A' m.props.length (prRow m.props)) (hB : B ≤ w.heap.size) (hB' : B' ≤ w.heap.size) (hl0 : m.props.length ≤ 140737488351232) :
    Calls Tryz.prog 58 #[.agg (msgCells m (.slice A m.props.length c)), .agg (msgCells m (.slice A' m.props.length c'))] w fun e w' => e = .returned (.bool true) ∧ Pure w w' := by
  have HR := Lib.hid hr
  have HR' := Lib.hid hr'
  clear hr hr'
  obtain ⟨mt, mp, mq, mr, ml, mf, mu, ms, mg⟩ := m
  simp only [msgCells] at *
  obtain ⟨HBa, HBb, HPa, hsz⟩ := blk_two w 25 #[.string mt, .string mp, .int .i64 mq, .bool mr, .slice A ml.length c, .string mf, .int .i64 mu, .int .i64 ms, .string mg] #[.string mt, .string mp, .int .i64 mq, .bool mr, .slice A' ml.length c', .string mf, .int .i64 mu, .int .i64 ms, .string mg]
  go_enter Tryz.func58, Tryz.ntmps58
  go_wp2_with fail
  refine (q_props_same A A' c c' B B' ml _ (HR.out.pure HPa.out hB) (HR'.out.pure HPa.out hB') (Nat.le_trans hB HPa.out.size) (Nat.le_trans hB' HPa.out.size) hl0).mono ?_; rintro e w2 ⟨rfl, hP⟩
  have HP2 := Lib.hid (HPa.out.trans hP)
  clear hP
  go_wp2_with fail
  go_ret
  exact ⟨rfl, HP2.out⟩

set_option maxRecDepth 100000 in
set_option maxHeartbeats 2000000 in
theorem q_op_same (o : SOp) (A A' : Option Addr) (c c' B B' : Nat) (w : World) (hr : Reads w B 4 A o.msg.props.length (prRow o.msg.props)) (hr' : Reads w B' 4 A' o.msg.props.length (prRow o.msg.props)) (hB : B ≤ w.heap.size) (hB' : B' ≤ w.heap.size) (hl0 : o.msg.props.length ≤ 140737488351232) :
    Calls Tryz.prog 17 #[.agg (opCells o (.slice A o.msg.props.length c)), .agg (opCells o (.slice A' o.msg.props.length c'))] w fun e w' => e = .returned (.bool true) ∧ Pure w w' := by
  have HR := Lib.hid hr
  have HR' := Lib.hid hr'
  clear hr hr'
  obtain ⟨ok, og, os, ⟨mt, mp, mq, mr, ml, mf, mu, ms, mg⟩⟩ := o
  simp only [opCells] at *
  obtain ⟨HBa, HBb, HPa, hsz⟩ := blk_two w 27 #[.int .i64 ok, .string og, .int .i64 os, .string mt, .string mp, .int .i64 mq, .bool mr, .slice A ml.length c, .string mf, .int .i64 mu, .int .i64 ms, .string mg] #[.int .i64 ok, .string og, .int .i64 os, .string mt, .string mp, .int .i64 mq, .bool mr, .slice A' ml.length c', .string mf, .int .i64 mu, .int .i64 ms, .string mg]
  go_enter Tryz.func17, Tryz.ntmps17
  go_wp2_with fail
  refine (q_msg_same ⟨mt, mp, mq, mr, ml, mf, mu, ms, mg⟩ A A' c c' B B' _ (HR.out.pure HPa.out hB) (HR'.out.pure HPa.out hB') (Nat.le_trans hB HPa.out.size) (Nat.le_trans hB' HPa.out.size) hl0).mono ?_; rintro e w2 ⟨rfl, hP⟩
  have HP2 := Lib.hid (HPa.out.trans hP)
  clear hP
  go_wp2_with fail
  go_ret
  exact ⟨rfl, HP2.out⟩
end Go.Proofs.YthokkjdolcfhcaaGreatDoor

set_option linter.unusedVariables false
namespace Go.Proofs.YthokkjdolcfhcaaGreatDoor
open Go.RowKit

/-- two blocks of one type beside a reader -/
structure RB (b : Nat) (σ : Nat → Addr) (w0 : World) (g rb hm : Nat) (t : TypeId) (st : RS) (c1 c2 : Array Value) (w : World) : Prop where
  hG : Gl b σ w
  hR : Rd b σ w g st
  hB1 : Blk w rb t c1
  hB2 : Blk w hm t c2
  hk : Only g w0 w
  hn : w0.heap.size ≤ rb ∧ w0.heap.size ≤ hm ∧ rb ≠ hm ∧ b ≤ w0.heap.size
  ht : t ≠ 146 ∧ t ≠ 150
section
variable {b : Nat} {σ : Nat → Addr} {w0 w w' : World} {g rb hm : Nat} {t : TypeId} {st st' : RS} {c1 c2 : Array Value}
theorem RB.call (h : RB b σ w0 g rb hm t st c1 c2 w) (hR' : Rd b σ w' g st') (k : Only g w w') : RB b σ w0 g rb hm t st' c1 c2 w' :=
  ⟨h.hG.only k hR', hR', h.hB1.rd k h.hR h.ht.1, h.hB2.rd k h.hR h.ht.1, h.hk.trans k, h.hn, h.ht⟩
theorem RB.pure (h : RB b σ w0 g rb hm t st c1 c2 w) (k : Pure w w') : RB b σ w0 g rb hm t st c1 c2 w' :=
  ⟨h.hG.pure k, h.hR.pure k, k.blk h.hB1 (fun hf => hf), k.blk h.hB2 (fun hf => hf), h.hk.trans (Keep.of_pure k), h.hn, h.ht⟩
theorem RB.set (h : RB b σ w0 g rb hm t st c1 c2 w) (i : Nat) (u : Value) : RB b σ w0 g rb hm t st c1 (c2.setIfInBounds i u) (w.setCell ⟨hm, i, none⟩ u) := by
  have k : Keep (fun i => i = hm) w (w.setCell ⟨hm, i, none⟩ u) := (Keep.refl (fun i => i = hm) w).setCell (.inl rfl) u
  have hn := h.hn
  exact ⟨h.hG.keep k (fun j hj => by omega), h.hR.keep k t h.ht.1 h.ht.2 (fun j hj => by subst hj; exact ⟨_, h.hB2⟩), k.blk h.hB1 (fun e => hn.2.2.1 e), h.hB2.set_ i u, h.hk.seq k (fun j hj => .inr (by omega)), hn, h.ht⟩
/-- what is stored into the two blocks disturbs nothing else -/
theorem RB.fin (h : RB b σ w0 g rb hm t st c1 c2 w) (k : Keep (fun i => i = rb ∨ i = hm) w w') : Gl b σ w' ∧ Rd b σ w' g st ∧ Only g w0 w' := by
  have hn := h.hn
  exact ⟨h.hG.keep k (fun j hj => by omega), h.hR.keep k t h.ht.1 h.ht.2 (fun j hj => by rcases hj with rfl | rfl; exact ⟨_, h.hB1⟩; exact ⟨_, h.hB2⟩), h.hk.seq k (fun j hj => .inr (by omega))⟩
theorem rb_err {v : Value} {f : Option Flt} {C : Prop} (h : RB b σ w0 g rb hm t st c1 c2 w) (hE : Er σ w v f) (k : Keep (fun i => i = rb ∨ i = hm) w w') (hC : Rd b σ w' g st → Only g w0 w' → Gl b σ w' → Er σ w' v f → C) : C := by
  obtain ⟨a1, a2, a3⟩ := h.fin k
  exact hC a2 a3 a1 (hE.keep k fun i cs hi hs => by
    rcases hs with rfl | rfl
    · exact Blk.ne_ h.hB1 hi h.ht.2 rfl
    · exact Blk.ne_ h.hB2 hi h.ht.2 rfl)
theorem rb_ok {base e n : Nat} {v : Value} {xs : List Value} {size : Nat} {C : Prop} (h : RB b σ w0 g rb hm t st c1 c2 w) (hO : w.ownsRow base e size v n xs) (h1 : rb < base) (h2 : hm < base) (k : Keep (fun i => i = rb ∨ i = hm) w w') (hC : Rd b σ w' g st → Only g w0 w' → Gl b σ w' → w'.ownsRow w0.heap.size e size v n xs → C) : C := by
  obtain ⟨a1, a2, a3⟩ := h.fin k
  refine hC a2 a3 a1 (own_low (k.own hO fun i hi hs => ?_) (by have := h.hn; omega))
  have := own_ge hO i hi
  omega
end

def SrPost (b : Nat) (σ : Nat → Addr) (g : Nat) (x : SRd) (r : Except Flt (List Pr) × RS) (group : ByteArray) (seq : Int) (w : World) (e : Ending) (w' : World) : Prop :=
  Rd b σ w' g r.2 ∧ Only g w w' ∧ Gl b σ w' ∧
    match r.1 with
    | .ok l => ∃ A c, e = .returned (.tuple #[.agg (msgCells (sMsg x l group seq) (.slice A l.length c)), .int .i64 x.n, .nilIface]) ∧ w'.ownsRow w.heap.size 152 4 (.slice A l.length c) l.length (prRow l) ∧ l.length ≤ 64
    | .error f => ∃ v, e = .returned (.tuple #[.agg (msgCells (sMsg x [] group seq) (.slice none 0 0)), .int .i64 x.n, v]) ∧ Er σ w' v (some f)
theorem ofInt_wrap64 (x : Int) : BitVec.ofInt 64 (wrap64 x) = BitVec.ofInt 64 x := by
  apply BitVec.eq_of_toInt_eq
  simp only [BitVec.toInt_ofInt]
  unfold wrap64
  rw [Int.bmod_def, Int.bmod_def]
  omega
theorem until_or (hi lo : Nat) (h1 : hi < 4294967296) (h2 : lo < 4294967296) : bits .or .i64 (wrap64 ((hi : Int) * 4294967296)) (lo : Int) = wrap64 ((hi : Int) * 4294967296 + lo) := by
  show IntKind.i64.wrap ((BitVec.ofInt 64 (wrap64 ((hi : Int) * 4294967296)) ||| BitVec.ofInt 64 (lo : Int)).toNat : Int) = _
  have e1 : (BitVec.ofInt 64 ((hi : Int) * 4294967296)).toNat = hi * 4294967296 := by
    have : ((hi : Int) * 4294967296) = ((hi * 4294967296 : Nat) : Int) := by simp
    rw [this, BitVec.ofInt_natCast, BitVec.toNat_ofNat]
    exact Nat.mod_eq_of_lt (by omega)
  have e2 : (BitVec.ofInt 64 (lo : Int)).toNat = lo := by
    rw [BitVec.ofInt_natCast, BitVec.toNat_ofNat]
    exact Nat.mod_eq_of_lt (by omega)
  rw [ofInt_wrap64, BitVec.toNat_or, e1, e2]
  have h := nat_or_low hi lo 32 (by omega)
  rw [show (2 : Nat) ^ 32 = 4294967296 from rfl] at h
  rw [h, IntKind.wrap_i64]
  unfold wrap64
  omega
theorem num_lt (st : RS) (k : Nat) : (st.num k).1 < 256 ^ k := by
  have h := be_lt (st.raw k).1.data.toList
  have h2 := RS.raw_size st k
  have h3 : 256 ^ (st.raw k).1.data.toList.length ≤ 256 ^ k := Nat.pow_le_pow_right (by omega) (by simpa using h2)
  exact Nat.lt_of_lt_of_le h h3
theorem and_three (n : Nat) (hn : n < 256) : bits .and .i64 (n : Int) 3 = ((n % 4 : Nat) : Int) := by
  have h := i64_and_nat n 3 (by omega) (by omega)
  rw [show (3 : Nat) = 2 ^ 2 - 1 from rfl, Nat.and_two_pow_sub_one_eq_mod] at h
  exact h
theorem and_four (n : Nat) (hn : n < 256) : (bits .and .i64 (n : Int) 4 != 0) = decide (n / 4 % 2 = 1) := by
  have h := i64_and_nat n 4 (by omega) (by omega)
  have h2 : n &&& 4 = n / 4 % 2 * 4 := (show ∀ m, m < 256 → m &&& 4 = m / 4 % 2 * 4 by decide +kernel) n hn
  rw [show ((4 : Int)) = ((4 : Nat) : Int) from rfl, h, h2]
  have : n / 4 % 2 = 0 ∨ n / 4 % 2 = 1 := by omega
  rcases this with h | h <;> simp [h]

set_option maxRecDepth 100000 in
set_option maxHeartbeats 2000000 in
theorem s_read (b : Nat) (σ : Nat → Addr) (g : Nat) (st : RS) (group : ByteArray) (seq : Int) (w : World) (hG : Gl b σ w) (hR : Rd b σ w g st) (hbw : b ≤ w.heap.size) :
    Calls Tryz.prog 65 #[.pointer (some ⟨g, 0, none⟩), .string group, .int .i64 seq] w (SrPost b σ g (sRd st) (pRead (sRd st).st 3) group seq w) := by
  have HPa : Hid (Pure w (w.alloc (.cells #[.string ⟨#[]⟩, .string ⟨#[]⟩, .int .i64 0, .bool false, .slice none 0 0, .string ⟨#[]⟩, .int .i64 0, .int .i64 0, .string ⟨#[]⟩] 25))) := (Keep.refl _ w).alloc _
  have HBa : Hid (Blk (w.alloc (.cells #[.string ⟨#[]⟩, .string ⟨#[]⟩, .int .i64 0, .bool false, .slice none 0 0, .string ⟨#[]⟩, .int .i64 0, .int .i64 0, .string ⟨#[]⟩] 25)) w.heap.size 25 #[.string ⟨#[]⟩, .string ⟨#[]⟩, .int .i64 0, .bool false, .slice none 0 0, .string ⟨#[]⟩, .int .i64 0, .int .i64 0, .string ⟨#[]⟩]) := Blk.new _ _ _
  have HGa := Lib.hid (hG.pure HPa.out)
  have HRa := Lib.hid (hR.pure HPa.out)
  clear hG hR
  go_enter Tryz.func65, Tryz.ntmps65
  go_wp2_with fail
  generalize w.alloc (.cells #[.string ⟨#[]⟩, .string ⟨#[]⟩, .int .i64 0, .bool false, .slice none 0 0, .string ⟨#[]⟩, .int .i64 0, .int .i64 0, .string ⟨#[]⟩] 25) = w1 at *
  refine (r_bin b σ g st w1 HGa.out HRa.out).mono ?_; rintro e w2 ⟨rfl, h1, h2⟩
  have HR2 := Lib.hid h1
  have HG2 := Lib.hid (HGa.out.only h2 h1)
  have HP2 := Lib.hid ((Keep.of_pure HPa.out).trans h2)
  have HB2 := Lib.hid (HBa.out.rd h2 HRa.out (by decide))
  clear h1 h2
  go_wp2_with fail
  refine (r_bin b σ g _ w2 HG2.out HR2.out).mono ?_; rintro e w3 ⟨rfl, h1, h2⟩
  have HR3 := Lib.hid h1
  have HG3 := Lib.hid (HG2.out.only h2 h1)
  have HP3 := Lib.hid (HP2.out.trans h2)
  have HB3 := Lib.hid (HB2.out.rd h2 HR2.out (by decide))
  clear h1 h2
  go_wp2_with fail
  have HQ : Hid (RB b σ w g w.heap.size w3.heap.size 25 st.bin.2.bin.2 #[.string ⟨#[]⟩, .string ⟨#[]⟩, .int .i64 0, .bool false, .slice none 0 0, .string ⟨#[]⟩, .int .i64 0, .int .i64 0, .string ⟨#[]⟩] #[.string st.bin.1, .string st.bin.2.bin.1, .int .i64 0, .bool false, .slice none 0 0, .string ⟨#[]⟩, .int .i64 0, .int .i64 seq, .string group] (w3.alloc (.cells #[.string st.bin.1, .string st.bin.2.bin.1, .int .i64 0, .bool false, .slice none 0 0, .string ⟨#[]⟩, .int .i64 0, .int .i64 seq, .string group] 25))) := by
    have hk : Pure w3 (w3.alloc (.cells #[.string st.bin.1, .string st.bin.2.bin.1, .int .i64 0, .bool false, .slice none 0 0, .string ⟨#[]⟩, .int .i64 0, .int .i64 seq, .string group] 25)) := (Keep.refl _ w3).alloc _
    have h1 := HP3.out.size
    have h2 := HB3.out.lt
    have h3 := HGa.out.size
    have h4 := HPa.out.size
    exact ⟨HG3.out.pure hk, HR3.out.pure hk, hk.blk HB3.out (fun hf => hf), Blk.new _ _ _, HP3.out.trans (Keep.of_pure hk), ⟨Nat.le_refl _, h1, by omega, hbw⟩, by decide, by decide⟩
  have hn : w.heap.size ≠ w3.heap.size := HQ.out.hn.2.2.1
  generalize w3.alloc (.cells #[.string st.bin.1, .string st.bin.2.bin.1, .int .i64 0, .bool false, .slice none 0 0, .string ⟨#[]⟩, .int .i64 0, .int .i64 seq, .string group] 25) = w4 at *
  generalize w3.heap.size = hm at *
  clear HR2 HG2 HP2 HB2 HR3 HG3 HP3 HB3 HGa HRa HPa HBa
  have hst : sRd st = ⟨st.bin.1, st.bin.2.bin.1, (st.bin.2.bin.2.num 1).1, (st.bin.2.bin.2.num 1).2.bin.1, ((st.bin.2.bin.2.num 1).2.bin.2.num 4).1, (((st.bin.2.bin.2.num 1).2.bin.2.num 4).2.num 4).1, (((st.bin.2.bin.2.num 1).2.bin.2.num 4).2.num 4).2⟩ := rfl
  have HST := Lib.hid hst
  clear hst
  have HN : Hid ((st.bin.2.bin.2.num 1).1 < 256) := num_lt _ 1
  generalize st.bin.1 = topic at *
  generalize st.bin.2.bin.1 = payload at *
  generalize st.bin.2.bin.2 = s3 at *
  refine (r_u8 b σ g s3 w4 HQ.out.hG HQ.out.hR).mono ?_; rintro e w5 ⟨rfl, h1, h2⟩
  have HQ5 := Lib.hid (HQ.out.call h1 h2)
  have hn256 : (s3.num 1).1 < 256 := HN.out
  generalize (s3.num 1).1 = n at *
  generalize (s3.num 1).2 = s4 at *
  have HA3 : Hid (bits .and .i64 (n : Int) 3 = ((n % 4 : Nat) : Int)) := and_three n hn256
  have HA4 : Hid ((bits .and .i64 (n : Int) 4 != 0) = decide (n / 4 % 2 = 1)) := and_four n hn256
  have d0 := HQ5.out.hB2.cell 0
  have d1 := HQ5.out.hB2.cell 1
  have d2 := HQ5.out.hB2.cell 2
  have d3 := HQ5.out.hB2.cell 3
  have fd := HQ5.out.hB2.frozen
  have hdl := HQ5.out.hB2.lt
  simp at d0 d1 d2 d3
  clear h1 h2
  go_wp2_with fail
  rw [HA3.out, HA4.out]
  have HQ6 : Hid (RB b σ w g w.heap.size hm 25 s4 #[.string ⟨#[]⟩, .string ⟨#[]⟩, .int .i64 0, .bool false, .slice none 0 0, .string ⟨#[]⟩, .int .i64 0, .int .i64 0, .string ⟨#[]⟩] #[.string topic, .string payload, .int .i64 ((n % 4 : Nat) : Int), .bool (decide (n / 4 % 2 = 1)), .slice none 0 0, .string ⟨#[]⟩, .int .i64 0, .int .i64 seq, .string group] ((w5.setCell ⟨hm, 2, none⟩ (.int .i64 ((n % 4 : Nat) : Int))).setCell ⟨hm, 3, none⟩ (.bool (decide (n / 4 % 2 = 1))))) := by
    have h := (HQ5.out.set 2 (.int .i64 ((n % 4 : Nat) : Int))).set 3 (.bool (decide (n / 4 % 2 = 1)))
    show RB _ _ _ _ _ _ _ _ _ _ _
    simpa using h
  generalize (w5.setCell ⟨hm, 2, none⟩ (.int .i64 ((n % 4 : Nat) : Int))).setCell ⟨hm, 3, none⟩ (.bool (decide (n / 4 % 2 = 1))) = w6 at *
  clear d0 d1 d2 d3 fd hdl HQ HQ5
  refine (r_bin b σ g s4 w6 HQ6.out.hG HQ6.out.hR).mono ?_; rintro e w7 ⟨rfl, h1, h2⟩
  have HQ7 := Lib.hid (HQ6.out.call h1 h2)
  clear h1 h2
  generalize s4.bin.1 = fr at *
  generalize s4.bin.2 = s5 at *
  have d5 := HQ7.out.hB2.cell 5
  have fd := HQ7.out.hB2.frozen
  have hdl := HQ7.out.hB2.lt
  simp at d5
  go_wp2_with fail
  have HQ8 : Hid (RB b σ w g w.heap.size hm 25 s5 #[.string ⟨#[]⟩, .string ⟨#[]⟩, .int .i64 0, .bool false, .slice none 0 0, .string ⟨#[]⟩, .int .i64 0, .int .i64 0, .string ⟨#[]⟩] #[.string topic, .string payload, .int .i64 ((n % 4 : Nat) : Int), .bool (decide (n / 4 % 2 = 1)), .slice none 0 0, .string fr, .int .i64 0, .int .i64 seq, .string group] (w7.setCell ⟨hm, 5, none⟩ (.string fr))) := by
    have h := HQ7.out.set 5 (.string fr)
    show RB _ _ _ _ _ _ _ _ _ _ _
    simpa using h
  generalize w7.setCell ⟨hm, 5, none⟩ (.string fr) = w8 at *
  clear d5 fd hdl HQ6 HQ7
  refine (r_u32 b σ g s5 w8 HQ8.out.hG HQ8.out.hR).mono ?_; rintro e w9 ⟨rfl, h1, h2⟩
  have HQ9 := Lib.hid (HQ8.out.call h1 h2)
  have hhi : (s5.num 4).1 < 4294967296 := num_lt s5 4
  clear h1 h2
  generalize (s5.num 4).1 = hi at *
  generalize (s5.num 4).2 = s6 at *
  have d6 := HQ9.out.hB2.cell 6
  have fd := HQ9.out.hB2.frozen
  have hdl := HQ9.out.hB2.lt
  simp at d6
  go_wp2_with fail
  obtain ⟨U, HU⟩ : ∃ U, Hid (wrap64 ((hi : Int) * 4294967296) = U) := ⟨_, rfl⟩
  rw [HU.out]
  have HQ10 : Hid (RB b σ w g w.heap.size hm 25 s6 #[.string ⟨#[]⟩, .string ⟨#[]⟩, .int .i64 0, .bool false, .slice none 0 0, .string ⟨#[]⟩, .int .i64 0, .int .i64 0, .string ⟨#[]⟩] #[.string topic, .string payload, .int .i64 ((n % 4 : Nat) : Int), .bool (decide (n / 4 % 2 = 1)), .slice none 0 0, .string fr, .int .i64 U, .int .i64 seq, .string group] (w9.setCell ⟨hm, 6, none⟩ (.int .i64 U))) := by
    have h := HQ9.out.set 6 (.int .i64 U)
    show RB _ _ _ _ _ _ _ _ _ _ _
    simpa using h
  generalize w9.setCell ⟨hm, 6, none⟩ (.int .i64 U) = w10 at *
  clear d6 fd hdl HQ8 HQ9
  have d6 := HQ10.out.hB2.cell 6
  have fd := HQ10.out.hB2.frozen
  have hdl := HQ10.out.hB2.lt
  simp at d6
  go_region_with (go_at_call 64; refine (r_u32 b σ g s6 _ (by exact HQ10.out.hG.drew) (by exact HQ10.out.hR.pure (Keep.refl _ w10).drew)).mono ?_; rintro e w11 ⟨rfl, h1, h2⟩; have HQ11 := Lib.hid (RB.call (HQ10.out.pure (Keep.refl _ w10).drew) h1 h2); have e6 := HQ11.out.hB2.cell 6; have ed := HQ11.out.hB2.frozen; have edl := HQ11.out.hB2.lt; simp at e6; clear h1 h2)
  all_goals
    have hlo : (s6.num 4).1 < 4294967296 := num_lt s6 4
    generalize (s6.num 4).1 = lo at *
    generalize (s6.num 4).2 = s7 at *
    have HUL : Hid (bits .or .i64 U (lo : Int) = wrap64 ((hi : Int) * 4294967296 + lo)) := by show _ = _; rw [← HU.out]; exact until_or hi lo hhi hlo
    rw [HUL.out]
    have HQ12 : Hid (RB b σ w g w.heap.size hm 25 s7 #[.string ⟨#[]⟩, .string ⟨#[]⟩, .int .i64 0, .bool false, .slice none 0 0, .string ⟨#[]⟩, .int .i64 0, .int .i64 0, .string ⟨#[]⟩] #[.string topic, .string payload, .int .i64 ((n % 4 : Nat) : Int), .bool (decide (n / 4 % 2 = 1)), .slice none 0 0, .string fr, .int .i64 (wrap64 ((hi : Int) * 4294967296 + lo)), .int .i64 seq, .string group] (w11.setCell ⟨hm, 6, none⟩ (.int .i64 (wrap64 ((hi : Int) * 4294967296 + lo))))) := by
      have h := HQ11.out.set 6 (.int .i64 (wrap64 ((hi : Int) * 4294967296 + lo)))
      show RB _ _ _ _ _ _ _ _ _ _ _
      simpa using h
    generalize w11.setCell ⟨hm, 6, none⟩ (.int .i64 (wrap64 ((hi : Int) * 4294967296 + lo))) = w12 at *
    clear e6 ed edl d6 fd hdl HQ11 HQ10 HUL HU
    go_wp2_with fail
    refine (p_read b σ g s7 3 w12 HQ12.out.hG HQ12.out.hR).mono ?_; rintro e w13 ⟨h1, h2, h3⟩
    have HQ13 := Lib.hid (HQ12.out.call h1 h2)
    clear h1 h2
    have d0 := HQ13.out.hB2.cell 0
    have d1 := HQ13.out.hB2.cell 1
    have d2 := HQ13.out.hB2.cell 2
    have d3 := HQ13.out.hB2.cell 3
    have d4 := HQ13.out.hB2.cell 4
    have d5 := HQ13.out.hB2.cell 5
    have d6 := HQ13.out.hB2.cell 6
    have d7 := HQ13.out.hB2.cell 7
    have d8 := HQ13.out.hB2.cell 8
    have fd := HQ13.out.hB2.frozen
    have hdl := HQ13.out.hB2.lt
    simp at d0 d1 d2 d3 d4 d5 d6 d7 d8
    have y0 := HQ13.out.hB1.cell 0
    have y1 := HQ13.out.hB1.cell 1
    have y2 := HQ13.out.hB1.cell 2
    have y3 := HQ13.out.hB1.cell 3
    have y4 := HQ13.out.hB1.cell 4
    have y5 := HQ13.out.hB1.cell 5
    have y6 := HQ13.out.hB1.cell 6
    have y7 := HQ13.out.hB1.cell 7
    have y8 := HQ13.out.hB1.cell 8
    have fy := HQ13.out.hB1.frozen
    have hyl := HQ13.out.hB1.lt
    simp at y0 y1 y2 y3 y4 y5 y6 y7 y8
    have hn2 : hm ≠ w.heap.size := fun e => hn e.symm
    have HLT : Hid (w.heap.size < w12.heap.size ∧ hm < w12.heap.size) := ⟨HQ12.out.hB1.lt, HQ12.out.hB2.lt⟩
    have HPX : Hid (∀ y, y = pRead s7 3 → pRead (sRd st).st 3 = y) := fun y h => by rw [HST.out]; exact h.symm
    have HPR := Lib.hid (HPX.out _ rfl)
    clear HPX
    generalize pRead s7 3 = r at *
    obtain ⟨r, s8⟩ := r
    simp only at *
    cases r with
    | error f =>
      simp only at h3
      obtain ⟨v, rfl, hE⟩ := h3
      have HE := Lib.hid hE
      obtain ⟨_, g', rfl, _⟩ := hE
      go_wp2_with fail
      refine bodyPost_ret (v := .tuple #[.agg #[.string topic, .string payload, .int .i64 ((n % 4 : Nat) : Int), .bool (decide (n / 4 % 2 = 1)), .slice none 0 0, .string fr, .int .i64 (wrap64 ((hi : Int) * 4294967296 + lo)), .int .i64 seq, .string group], .int .i64 n, (.iface 148 (.pointer (some ⟨g', 0, none⟩)))]) (by simp [results, Tryz.results65, go_sem, hyl, y0, y1, y2, y3, y4, y5, y6, y7, y8, fy, hn, hn2]) rfl ?_
      unfold SrPost
      rw [HPR.out, HST.out]
      refine rb_err HQ13.out HE.out ?_ fun e1 e2 e3 e4 => ⟨e1, e2, e3, _, rfl, e4⟩
      repeat (first | (with_reducible refine Keep.drew ?_) | (with_reducible refine Keep.drewN ?_ _) | (with_reducible refine Keep.alloc ?_ _) | (with_reducible refine Keep.setCell ?_ (by first | (simp; done) | (simp; omega)) _))
      exact Keep.refl _ _
    | ok l =>
      simp only at h3
      obtain ⟨v, rfl, ho, hl⟩ := h3
      obtain ⟨A, c, rfl⟩ := own_shape ho
      have HO := Lib.hid ho
      clear ho
      go_wp2_with fail
      refine bodyPost_ret (v := .tuple #[.agg #[.string topic, .string payload, .int .i64 ((n % 4 : Nat) : Int), .bool (decide (n / 4 % 2 = 1)), .slice A l.length c, .string fr, .int .i64 (wrap64 ((hi : Int) * 4294967296 + lo)), .int .i64 seq, .string group], .int .i64 n, .nilIface]) (by simp [results, Tryz.results65, go_sem, hyl, y0, y1, y2, y3, y4, y5, y6, y7, y8, fy, hn, hn2]) rfl ?_
      unfold SrPost
      rw [HPR.out, HST.out]
      refine rb_ok HQ13.out HO.out HLT.out.1 HLT.out.2 ?_ fun e1 e2 e3 e4 => ⟨e1, e2, e3, _, _, rfl, e4, hl⟩
      repeat (first | (with_reducible refine Keep.drew ?_) | (with_reducible refine Keep.drewN ?_ _) | (with_reducible refine Keep.alloc ?_ _) | (with_reducible refine Keep.setCell ?_ (by first | (simp; done) | (simp; omega)) _))
      exact Keep.refl _ _
end Go.Proofs.YthokkjdolcfhcaaGreatDoor

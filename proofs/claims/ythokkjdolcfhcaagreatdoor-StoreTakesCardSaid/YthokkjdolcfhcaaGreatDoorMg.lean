/- Package varint: Size and Put. Package varint: Put. The writer of package field: its small methods. The writer of package field: numbers of so many bytes: what is written. -/
import Derived.Test.YthokkjdolcfhcaaGreatDoorMa
import Derived.Test.YthokkjdolcfhcaaGreatDoorMc
import Derived.Laws.IdiomStrings
import Derived.Test.YthokkjdolcfhcaaGreatDoorMd
import Derived.Maps.AppendAt
import Derived.Laws.BytesString

set_option linter.unusedVariables false
namespace Go.Proofs.YthokkjdolcfhcaaGreatDoor
open Go.RowKit

def vsize (n : Int) : Nat := if n < 0 ∨ 268435455 < n then 0 else (vputL 4 n.toNat).length

theorem vputL_more {k n : Nat} (h : ¬ n < 128) : (vputL (k + 1) n).length = 1 + (vputL k (n / 128)).length := by
  rw [vputL, if_neg h]
  simp
  omega
theorem vputL_one {k n : Nat} (h : n < 128) : (vputL (k + 1) n).length = 1 := by
  rw [vputL, if_pos h]
  rfl

set_option maxHeartbeats 1000000 in
theorem v_size (n : Int) (w : World) : Calls Tryz.prog 231 #[.int .i64 n] w fun e w' => e = .returned (.int .i64 (vsize n)) ∧ w = w' := by
  by_cases hn : n < 0 ∨ 268435455 < n
  · have HV : Hid (vsize n = 0) := by show _ = _; unfold vsize; rw [if_pos hn]
    rcases hn with hn | hn
    · go_enter Tryz.func231, Tryz.ntmps231
      go_wp2
      go_ret
      rw [HV.out]
      exact ⟨rfl, rfl⟩
    · have hn2 : ¬ n < 0 := by omega
      go_enter Tryz.func231, Tryz.ntmps231
      go_wp2
      go_ret
      rw [HV.out]
      exact ⟨rfl, rfl⟩
  · have HV : Hid (vsize n = (vputL 4 n.toNat).length) := by show _ = _; unfold vsize; rw [if_neg hn]
    have hn1 : ¬ n < 0 := by omega
    have hn2 : ¬ 268435455 < n := by omega
    have HL : Hid (n.toNat < 128 ^ 4) := by show _ < _; omega
    have HN : Hid (n = (n.toNat : Int)) := by show _ = _; omega
    clear hn
    go_enter Tryz.func231, Tryz.ntmps231
    go_wp2_with fail
    go_loop [3, 0] (fun a c => ∃ k m : Nat, k ≤ 3 ∧ m ≤ 268435455 ∧ Hid (m < 128 ^ (4 - k)) ∧ a = .int .i64 ((k : Int) + 1) ∧ c = .int .i64 (m : Int) ∧ Hid (k + (vputL (4 - k) m).length = (vputL 4 n.toNat).length)) (fun _ c => (intOf c).toNat)
    case atStart => exact ⟨0, n.toNat, by omega, by omega, HL.out, by simp, by rw [← HN.out], by show _ = _; simp⟩
    case round =>
      obtain ⟨k, m, hk, hm2, hml, rfl, rfl, hvl⟩ := hrel
      by_cases hm : m < 128
      · have hm' : ¬ (128 : Int) ≤ (m : Int) := by omega
        clear hm
        go_wp2_with fail
        go_ret
        rw [HV.out, ← hvl.out]
        have h : (vputL (4 - k) m).length = 1 := by
          rw [show 4 - k = (3 - k) + 1 from by omega]
          exact vputL_one (by omega)
        rw [h]
        exact ⟨rfl, rfl⟩
      · have hm' : (128 : Int) ≤ (m : Int) := by omega
        have HM := Lib.hid hm
        clear hm
        go_wp2_with fail
        go_round
        case rel =>
          have h1 := hml.out
          have h2 := HM.out
          have hk3 : k ≤ 2 := by
            rcases Nat.lt_or_ge k 3 with h | h
            · omega
            · exfalso
              have : k = 3 := by omega
              subst this
              simp at h1
              omega
          refine ⟨k + 1, m / 128, by omega, by omega, ?_, by simp, by simp, ?_⟩
          · show _ < _
            rw [show 4 - k = (4 - (k + 1)) + 1 from by omega, Nat.pow_succ] at h1
            omega
          · show _ = _
            rw [← hvl.out, show 4 - k = (4 - (k + 1)) + 1 from by omega, vputL_more h2]
            omega
        case measure => simp [intOf]; omega
end Go.Proofs.YthokkjdolcfhcaaGreatDoor

set_option linter.unusedVariables false
namespace Go.Proofs.YthokkjdolcfhcaaGreatDoor
open Go.RowKit

theorem info_byte : (Tryz.prog.info? 5).map (fun i => (i.zero, i.size, i.bytes)) = some (some (.int .u8 0), 1, 1) := by kernel_rfl
def PutPost (σ : Nat → Addr) (n : Int) (w : World) (e : Ending) (w' : World) : Prop :=
  match vput n with
  | some s => e = .returned (.tuple #[.string s, .nilIface]) ∧ Pure w w'
  | none => ∃ v, e = .returned (.tuple #[.string noBytes, v]) ∧ Er σ w' v (some ⟨4, 129, 0⟩) ∧ Pure w w'

theorem v_put_bad (b : Nat) (σ : Nat → Addr) (n : Int) (w : World) (hG : Gl b σ w) (hn : n < 0 ∨ 268435455 < n) : Calls Tryz.prog 192 #[.int .i64 n] w (PutPost σ n w) := by
  have HV : Hid (vput n = none) := by show _ = _; unfold vput; rw [if_pos hn]
  have HS := v_size n w
  have hs : vsize n = 0 := by unfold vsize; rw [if_pos hn]
  rw [hs] at HS
  have HS := Lib.hid HS
  have cg := hG.c4
  have hlow := hG.low
  clear hG hs hn
  go_enter Tryz.func192, Tryz.ntmps192
  go_wp2_with fail
  refine HS.out.mono ?_; rintro e w' ⟨rfl, rfl⟩
  go_wp2_with (go_at_call 68; refine (new_any σ 4 _ _ _ (by omega) (by omega)).mono ?_; rintro e w' ⟨g', rfl, rfl, rfl⟩)
  go_ret2
  unfold PutPost
  rw [HV.out]
  exact ⟨_, rfl, ⟨flt_ok (by omega) (by omega), _, rfl, .base _ _ _ _ (Blk.new _ _ _)⟩, (Keep.refl _ _).alloc _⟩

theorem or_128 (m : Nat) : bits .or .i64 ((m : Int) % 128) 128 = (m : Int) % 128 + 128 := by
  have h := i64_or_nat (m % 128) 128 (by omega) (by omega)
  have h2 : (m % 128) ||| 128 = m % 128 + 128 := by
    rw [Nat.or_comm]
    have := nat_or_low 1 (m % 128) 7 (by omega)
    simpa [Nat.add_comm] using this
  rw [h2] at h
  have e1 : (((m % 128 : Nat)) : Int) = (m : Int) % 128 := by omega
  rw [e1] at h
  rw [show ((128 : Nat) : Int) = 128 from rfl] at h
  rw [h]
  omega
theorem u8_and_127 (c : UInt8) : bits .and .u8 (c.toNat : Int) 127 = (((UInt8.ofNat (c.toNat % 128)).toNat : Nat) : Int) := by
  have h : ∀ n : Fin 256, bits .and .u8 (n.val : Int) 127 = (((UInt8.ofNat (n.val % 128)).toNat : Nat) : Int) := by decide +kernel
  exact h ⟨c.toNat, UInt8.toNat_lt c⟩
/-- cells that hold bytes -/
def byteC (l : List UInt8) : List Value := l.map fun c => .int .u8 (c.toNat : Int)
theorem blk_string {w : World} {g : Nat} {cs : Array Value} {l : List UInt8} (hb : Blk w g 5 cs) (hc : cs.toList = byteC l) (cap : Nat) (n : Nat) (hn : n = l.length) :
    (convert 99 9 (.slice (some ⟨g, 0, none⟩) n cap)).run Tryz.prog w = .ok (.string ⟨l.toArray⟩) w := by
  subst hn
  refine run_convert_bytes_back w _ _ 5 _ cap l Tryz.underlying99 Tryz.underlying5 Tryz.underlying9 ?_
  intro j hj
  have h := hb.cell j
  rw [← Array.getElem?_toList, hc, byteC, List.getElem?_map, List.getElem?_eq_getElem hj] at h
  have e : (⟨g, 0, none⟩ : Addr).add j = ⟨g, j, none⟩ := by rw [Addr.add_lit]; simp
  rw [e]
  simpa using h
theorem made_zero (s : Nat) : madeCells (Value.int .u8 0).cells (s * 1) = Array.replicate s (.int .u8 0) := by
  apply Array.ext
  · simp [size_madeCells]
  · intro i h1 h2
    simp [madeCells, Value.cells, Nat.mod_one]

/-- what the loop has done -/
def PutAt (n s : Nat) (gb : Nat) (w : World) (k m : Nat) (wr : World) : Prop :=
  ∃ (cs : Array Value) (pre : List UInt8), Blk wr gb 5 cs ∧ cs.size = s ∧ pre.length = k ∧ cs.toList.take k = byteC pre ∧ pre ++ vputH (s - k) m = vputH s n ∧ Pure w wr ∧ (∀ j, j < s → ∃ x, cs[j]? = some (.int .u8 x))

set_option maxRecDepth 100000 in
set_option maxHeartbeats 1000000 in
theorem v_put_good (b : Nat) (σ : Nat → Addr) (n : Nat) (s : Nat) (w : World) (hG : Gl b σ w) (hn : n < 128 ^ 4) (hs : s = (vputL 4 n).length) : Calls Tryz.prog 192 #[.int .i64 n] w (PutPost σ n w) := by
  have hn2 : n < 268435456 := by omega
  have HS := v_size n w
  have hvs : vsize n = s := by unfold vsize; rw [if_neg (by omega), hs]; rfl
  rw [hvs] at HS
  have HS := Lib.hid HS
  have HV : Hid (vput n = some ⟨(vputL 4 n).toArray⟩) := by show _ = _; unfold vput; rw [if_neg (by omega)]; rfl
  have HL : Hid (unmark (vputH s n) = vputL 4 n) := by show _ = _; rw [hs]; exact vputL_H 4 n hn
  have hs1 : 1 ≤ s := by rw [hs]; exact vputL_pos 4 n (by omega)
  have hs4 : s ≤ 4 := by rw [hs]; exact vputL_length 4 n
  have HM : Hid ((n : Int) ≤ 268435455 ∧ True) := ⟨by omega, trivial⟩
  obtain ⟨i0, hi0, hz0, hz1, hz2⟩ := info_parts info_byte
  have hmk := run_make (P := Tryz.prog) w 99 5 i0 (.int .u8 0) Tryz.underlying99 hi0 hz0 .i64 .i64 s s (by omega) (by omega) (by rw [hz2]; omega) (by omega)
  rw [hz1, Int.toNat_natCast, made_zero] at hmk
  have HA : Hid (PutAt n s w.heap.size w 0 n (w.alloc (.cells (Array.replicate s (.int .u8 0)) 5))) :=
    ⟨_, [], Blk.new _ _ _, by simp, rfl, by simp [byteC], by simp, (Keep.refl _ _).alloc _, fun j hj => ⟨0, by simp [Array.getElem?_replicate, hj]⟩⟩
  generalize Array.replicate s (Value.int .u8 0) = zs at *
  generalize hw1 : w.alloc (.cells zs 5) = w1 at *
  generalize hgb : w.heap.size = gb at HA hmk
  have HGB : Hid (w.heap.size ≤ gb) := by show _ ≤ _; omega
  clear hgb
  have hs0 : ((s : Int) == 0) = false := by simp; omega
  clear hG hn hs hi0 hz0 hz1 hz2 hvs hw1
  go_enter Tryz.func192, Tryz.ntmps192
  go_wp2_with fail
  refine HS.out.mono ?_; rintro e w' ⟨rfl, rfl⟩
  go_wp2_with fail
  go_loopw [17, 0] (fun a c wr => ∃ k m : Nat, k ≤ s ∧ m < 268435456 ∧ a = .int .i64 (k : Int) ∧ c = .int .i64 (m : Int) ∧ Hid (PutAt n s gb w k m wr)) (fun a _ _ => s - (intOf a).toNat)
  case atStart => exact ⟨0, n, by omega, hn2, rfl, rfl, HA.out⟩
  case round =>
    obtain ⟨k, m, hk, hm, rfl, rfl, hP⟩ := hrel
    obtain ⟨cs, pre, hB, hcs, hpl, htk, hpre, hK, hall⟩ := hP.out
    have HB := Lib.hid hB
    have HK := Lib.hid hK
    have HALL := Lib.hid hall
    by_cases hks : k < s
    · obtain ⟨y, hy⟩ := hall k hks
      have ck := hB.cell k
      have fk := hB.frozen k
      rw [hy] at ck
      have hor := or_128 m
      have HKS := Lib.hid hks
      have hks' : (k : Int) < (s : Int) := by omega
      have HR := Lib.hid (And.intro hcs (And.intro hpl (And.intro htk hpre)))
      have HM2 := Lib.hid hm
      clear hB hcs hpl htk hpre hK hall hP hy hks
      go_wp2_with fail
      go_round
      case rel =>
        have hks := HKS.out
        obtain ⟨hcs, hpl, htk, hpre⟩ := HR.out
        refine ⟨k + 1, m / 128, by omega, by have := HM2.out; omega, by simp, by simp, ?_⟩
        have h8 : ((m : Int) % 128 + 128) = (((UInt8.ofNat (m % 128 + 128)).toNat : Nat) : Int) := by
          simp
          omega
        refine ⟨_, pre ++ [UInt8.ofNat (m % 128 + 128)], HB.out.set_ k _, by simp [hcs], by simp [hpl], ?_, ?_, HK.out.setCell (.inr HGB.out) _, ?_⟩
        · have hl : k < cs.toList.length := by simp [hcs]; omega
          rw [Array.toList_setIfInBounds, List.take_succ_eq_append_getElem (by simpa using hl), List.take_set_of_le (Nat.le_refl _), htk, List.getElem_set_self, h8]
          simp [byteC]
        · rw [← hpre, show s - k = (s - (k + 1)) + 1 from by omega, vputH]
          simp
        · intro j hj
          by_cases h : j = k
          · subst h
            exact ⟨_, by rw [Array.getElem?_setIfInBounds]; simp [hcs, hj]; rfl⟩
          · obtain ⟨x, hx⟩ := HALL.out j hj
            exact ⟨x, by rw [Array.getElem?_setIfInBounds, if_neg (by omega)]; exact hx⟩
      case measure => simp [intOf]; omega
    · have hk2 : k = s := by omega
      subst hk2
      obtain ⟨y, hy⟩ := hall (k - 1) (by omega)
      have hE : vputH k n ≠ [] := by
        intro h0
        have := vputH_length k n
        rw [h0] at this
        simp at this
        omega
      have hcl : cs.toList = byteC (vputH k n) := by
        rw [Nat.sub_self] at hpre
        simp only [vputH, List.append_nil] at hpre
        rw [← hpre, ← htk, List.take_of_length_le (by simp [hcs])]
      obtain ⟨z, hz⟩ : ∃ z, (vputH k n).getLast? = some z := by
        cases hg : (vputH k n).getLast? with
        | none => exact absurd (List.getLast?_eq_none_iff.1 hg) hE
        | some x => exact ⟨x, rfl⟩
      have hyz : cs[k - 1]? = some (.int .u8 (z.toNat : Int)) := by
        rw [← Array.getElem?_toList, hcl, byteC, List.getElem?_map]
        rw [List.getLast?_eq_getElem?, vputH_length] at hz
        rw [hz]
        rfl
      have ck := hB.cell (k - 1)
      have fk := hB.frozen (k - 1)
      rw [hyz] at ck
      have hand := u8_and_127 z
      have hcl2 : (cs.setIfInBounds (k - 1) (.int .u8 (((UInt8.ofNat (z.toNat % 128)).toNat : Nat) : Int))).toList = byteC (vputL 4 n) := by
        rw [Array.toList_setIfInBounds, hcl, ← HL.out]
        obtain ⟨ys, hys⟩ : ∃ ys, vputH k n = ys ++ [z] := by
          obtain ⟨ys, h⟩ := List.getLast?_eq_some_iff.1 hz
          exact ⟨ys, h⟩
        have hyl : ys.length = k - 1 := by
          have := vputH_length k n
          rw [hys] at this
          simp at this
          omega
        rw [hys]
        simp [unmark, byteC, ← hyl]
      have hB2 := hB.set_ (k - 1) (.int .u8 (((UInt8.ofNat (z.toNat % 128)).toNat : Nat) : Int))
      have hcv := blk_string hB2 hcl2 k k (by
        have h := congrArg List.length hcl2
        simp [byteC, hcs] at h
        exact h)
      have HK2 := Lib.hid (HK.out.setCell (S := fun _ => False) (p := ⟨gb, k - 1, none⟩) (.inr HGB.out) (.int .u8 (((UInt8.ofNat (z.toNat % 128)).toNat : Nat) : Int)))
      generalize (((UInt8.ofNat (z.toNat % 128)).toNat : Nat) : Int) = q at *
      have hk1 : ((k - 1 : Nat) : Int) = (k : Int) - 1 := by omega
      clear hB hcs hpl htk hpre hK hall hP hy hE hcl hz hyz hcl2 hB2
      go_wp2_with fail
      go_ret2
      unfold PutPost
      rw [HV.out]
      exact ⟨rfl, HK2.out⟩
end Go.Proofs.YthokkjdolcfhcaaGreatDoor

set_option linter.unusedVariables false
namespace Go.Proofs.YthokkjdolcfhcaaGreatDoor
open Go.RowKit

/-- What a writer's call may turn: its own block, and rows of bytes that are not older. -/
def WFr (g : Nat) (w : World) (k : Nat) : Prop := k = g ∨ (g ≤ k ∧ ∃ cs, Blk w k 5 cs)
def From (g : Nat) (w w' : World) : Prop := Keep (WFr g w) w w'
section
variable {w w' w'' : World} {g h : Nat} {t : TypeId} {cs : Array Value}
theorem From.refl (g : Nat) (w : World) : From g w w := Keep.refl _ w
theorem From.of_pure (k : Pure w w') : From g w w' := Keep.of_pure k
theorem From.of_only (k : Only g w w') : From g w w' := Keep.mono k fun i _ hi => .inl hi
theorem From.keep (k : From g w w') : Keep (WFr g w) w w' := k
theorem From.drew (k : From g w w') : From g w w'.drew := Keep.drew k
theorem From.trans (k : From g w w') (l : From g w' w'') : From g w w'' :=
  Keep.seq k l fun i hi => by
    rcases Nat.lt_or_ge i w.heap.size with hlt | hge
    · refine .inl ?_
      rcases hi with rfl | ⟨hg, cs, hb⟩
      · exact .inl rfl
      · rcases Classical.em (WFr g w i) with h | h
        · exact h
        · exact .inr ⟨hg, cs, (k.block i hlt h).symm.trans hb⟩
    · exact .inr hge
theorem From.blk (k : From g w w') (hb : Blk w h t cs) (hg : h ≠ g) (ht : t ≠ 5) : Blk w' h t cs :=
  Keep.blk k hb fun hs => by
    rcases hs with rfl | ⟨_, cs', hb'⟩
    · exact hg rfl
    · exact Blk.ne_ hb hb' ht rfl
theorem From.low (k : From g w w') : Keep (fun i => g ≤ i) w w' := Keep.mono k fun i _ hi => by
  rcases hi with rfl | ⟨h, _⟩
  · exact Nat.le_refl _
  · exact h
theorem From.setCell (k : From g w w') (i : Nat) (u : Value) : From g w (w'.setCell ⟨g, i, none⟩ u) := Keep.setCell k (.inl (.inl rfl)) u
end

/-- A writer in memory. -/
def Wr (b : Nat) (σ : Nat → Addr) (w : World) (g : Nat) (ws : WS) : Prop :=
  ∃ v x, Blk w g 101 #[v, x] ∧ w.ownsRow g 5 1 v ws.all.size (Lib.strCells ws.all) ∧ Er σ w x ws.e ∧ b ≤ g

theorem Wr.pure {b : Nat} {σ : Nat → Addr} {w w' : World} {g : Nat} {ws : WS} (h : Wr b σ w g ws) (k : Pure w w') : Wr b σ w' g ws := by
  obtain ⟨v, x, hb, ho, he, hg⟩ := h
  exact ⟨v, x, k.blk hb (fun hf => hf), k.own ho (fun _ _ hf => hf), he.pure k, hg⟩

theorem w_off (b : Nat) (σ : Nat → Addr) (g : Nat) (ws : WS) (w : World) (hR : Wr b σ w g ws) :
    Calls Tryz.prog 153 #[.pointer (some ⟨g, 0, none⟩)] w fun e w' => e = .returned (.bool ws.e.isSome) ∧ w = w' := by
  obtain ⟨v, x, hb, ho, he, hbg⟩ := hR
  have c2 := hb.cell 1
  simp at c2
  obtain ⟨s, e⟩ := ws
  cases e with
  | none =>
    simp only [Er] at he
    subst he
    go_enter Tryz.func153, Tryz.ntmps153
    go_wp2
    go_ret
    exact ⟨rfl, rfl⟩
  | some f =>
    obtain ⟨_, g', rfl, _⟩ := he
    go_enter Tryz.func153, Tryz.ntmps153
    go_wp2
    go_ret
    exact ⟨rfl, rfl⟩

theorem w_fail (g : Nat) (w : World) (v x y : Value) (T : TypeId) (hb : Blk w g 101 #[v, x]) :
    Calls Tryz.prog 173 #[.pointer (some ⟨g, 0, none⟩), .iface T y] w fun e w' => e = .returned (.tuple #[]) ∧ w' = w.setCell ⟨g, 1, none⟩ (.iface T y) := by
  have c1 := hb.cell 1
  have f1 := hb.frozen 1
  simp at c1
  clear hb
  go_enter Tryz.func173, Tryz.ntmps173
  go_wp2
  go_end0
  exact ⟨rfl, rfl⟩

theorem w_first (b : Nat) (σ : Nat → Addr) (g : Nat) (ws : WS) (w : World) (hR : Wr b σ w g ws) :
    Calls Tryz.prog 154 #[.pointer (some ⟨g, 0, none⟩)] w fun e w' => ∃ v, e = .returned v ∧ Er σ w v ws.e ∧ w = w' := by
  obtain ⟨v, x, hb, ho, he, hbg⟩ := hR
  have c1 := hb.cell 1
  simp at c1
  have HE := Lib.hid he
  clear hb ho he
  go_enter Tryz.func154, Tryz.ntmps154
  go_wp2
  go_ret
  exact ⟨_, rfl, HE.out, rfl⟩
end Go.Proofs.YthokkjdolcfhcaaGreatDoor

set_option linter.unusedVariables false
namespace Go.Proofs.YthokkjdolcfhcaaGreatDoor
open Go.RowKit
theorem info_u8 : (Tryz.prog.info? 5).map (fun i => (i.zero, i.size, i.bytes)) = some (some (.int .u8 0), 1, 1) := by kernel_rfl

theorem own_blk {w : World} {base e size n : Nat} {v : Value} {xs : List Value} (h : w.ownsRow base e size v n xs) (k : Nat) (hk : v.ownBlock = some k) : base ≤ k ∧ ∃ cs, Blk w k e cs := by
  rcases h.2 with ⟨rfl, _⟩ | ⟨g, cap, cur, rfl, hb, hh, _⟩
  · simp [Value.ownBlock] at hk
  · have : g = k := by simpa [Value.ownBlock] using hk
    subst this
    exact ⟨hb, cur, hh⟩
/-- what is appended to a writer's bytes, ahead of its store -/
theorem wr_grown {w0 w1 w' : World} {g n : Nat} {v x : Value} {xs : List Value} (hb : Blk w0 g 101 #[v, x]) (ho : w0.ownsRow g 5 1 v n xs) (hp : Pure w0 w1) (hg : w1.grownBy w' v.ownBlock) :
    Blk w' g 101 #[v, x] ∧ From g w0 w' := by
  have hlt := hb.lt
  have K : Keep (fun k => v.ownBlock = some k) w0 w' := (Keep.of_pure hp).grown hg fun k hk => .inl hk
  exact ⟨K.blk hb fun h => hb.ne_own ho (by decide) _ h rfl, K.mono fun k _ h => .inr (own_blk ho k h)⟩
/-- and behind it -/
theorem wr_stored {w0 w' : World} {g n : Nat} {v v' x : Value} {xs : List Value} (hb : Blk w' g 101 #[v, x]) (ho : w'.ownsRow g 5 1 v' n xs) (hk : From g w0 w') :
    Blk (w'.setCell ⟨g, 0, none⟩ v') g 101 #[v', x] ∧ (w'.setCell ⟨g, 0, none⟩ v').ownsRow g 5 1 v' n xs ∧ From g w0 (w'.setCell ⟨g, 0, none⟩ v') := by
  have h := hb.set_ 0 v'
  refine ⟨by simpa using h, ?_, hk.setCell 0 _⟩
  exact ((Keep.refl (fun k => k = g) w').setCell (.inl rfl) v').own ho (hb.ne_own ho (by decide))
theorem WS.add_row (ws : WS) (s : ByteArray) (l : List Value) (h : l = Lib.strCells s) : Lib.strCells ws.all ++ l = Lib.strCells (ws.add s).all := by
  rw [h]
  exact (strCells_append _ _).symm
theorem WS.add_size (ws : WS) (s : ByteArray) (m : Nat) (h : s.size = m) : ws.all.size + m = (ws.add s).all.size := by
  simp [WS.add, h]

set_option maxRecDepth 100000 in
set_option maxHeartbeats 2000000 in
theorem w_number1 (b : Nat) (σ : Nat → Addr) (g : Nat) (ws : WS) (he0 : ws.e = none) (hl : ws.all.size ≤ 140737488351232) (n : Int) (w : World) (hG : Gl b σ w) (hR : Wr b σ w g ws) (h0 : 0 ≤ n) (hn : n < 256) :
    Calls Tryz.prog 152 #[.pointer (some ⟨g, 0, none⟩), .int .i64 n, .int .i64 1] w fun e w' => e = .returned (.tuple #[]) ∧ Wr b σ w' g (ws.add (beS 1 n.toNat)) ∧ From g w w' := by
  obtain ⟨i0, hi0, hz0, hz1, hz2⟩ := info_parts info_u8
  have HI0 : Hid (Tryz.prog.info? 5 = some i0) := hi0
  have HI1 := Lib.hid hz0
  have HI2 := Lib.hid hz1
  have HI3 := Lib.hid hz2
  clear hi0 hz0 hz1 hz2
  have h := w_off b σ g ws w hR
  rw [he0] at h
  simp only [Option.isSome] at h
  have HO := Lib.hid h
  obtain ⟨v, x, hb, ho, he, hbg⟩ := hR
  rw [he0] at he
  simp only [Er] at he
  subst he
  have hlt := hb.lt
  have HB0 := Lib.hid hb
  have HW0 := Lib.hid ho
  have HK0 : Hid (From g w w) := From.refl _ _
  have HA : Hid (ws.e = none) := he0
  have HN : Hid (0 ≤ n ∧ n < 256) := ⟨h0, hn⟩
  obtain ⟨A0, c0, rfl⟩ := own_shape ho
  have hn2 : ¬ n < 0 := by omega
  have hn3 : ¬ 256 ≤ n := by omega
  clear h hb ho hG he0
  go_enter Tryz.func152, Tryz.ntmps152
  go_wp2_with fail
  refine HO.out.mono ?_; rintro e w' ⟨rfl, rfl⟩
  -- 0
  have d0 := HB0.out.cell 0
  simp at d0
  have HP0 : Hid (Pure w (World.alloc w (.cells #[.int .u8 (n)] 5))) := (Keep.refl _ _).alloc _
  have hbs0 : g ≤ (World.alloc w (.cells #[.int .u8 (n)] 5)).heap.size := by
    have h1 := HB0.out.lt
    have h2 := HP0.out.size
    omega
  have HBS0 := Lib.hid hbs0
  have HWP0 := Lib.hid (HP0.out.own HW0.out fun _ _ hf => hf)
  clear hbs0
  go_wp2_with (at_builtin; refine wpList_append_own _ rfl (.tmp 62) (.tmp 65) 99 rfl g 5 i0 (.int .u8 0) 1 1 Tryz.underlying99 HI0.out HI1.out HI2.out HI3.out rfl (by decide) (.slice A0 (ws.all.size) c0) (ws.all.size) (Lib.strCells ws.all) rfl HWP0.out ⟨w.heap.size, 0, none⟩ 1 1 [.int .u8 (n)] rfl rfl ?news0 ?one0 ?mx0 ?bb0 ?bs0 ?k0)
  case mx0 => unfold maxLen; omega
  case bb0 => omega
  case bs0 => exact HBS0.out
  case news0 => exact cell_one_new _ _ _
  case one0 => intro u hu; simp at hu; rcases hu with rfl <;> rfl
  intro v1 y1 ho1 hg1 _
  have ho1 : World.ownsRow y1 g 5 1 v1 ((ws.all.size) + 1) (Lib.strCells ws.all ++ [.int .u8 (n)]) := by simpa using ho1
  obtain ⟨A1, c1, rfl⟩ := own_shape ho1
  have hgr1 := wr_grown HB0.out HW0.out HP0.out hg1
  have hst1 := wr_stored (w0 := w) hgr1.1 ho1 hgr1.2
  have e1 := hgr1.1.cell 0
  have f1 := hgr1.1.frozen 0
  simp at e1
  have HB1 := Lib.hid hst1.1
  have HW1 := Lib.hid hst1.2.1
  have HK1 := Lib.hid (HK0.out.trans hst1.2.2)
  clear ho1 hg1 hgr1 hst1
  go_wp2_with fail
  go_end0
  refine ⟨rfl, ⟨_, .nilIface, HB1.out, ?_, ?_, hbg⟩, HK1.out⟩
  · have h := HW1.out
    have h1 : ws.all.size + 1 = (ws.add (beS 1 n.toNat)).all.size := by rw [← WS.add_size ws _ 1 (beS_size _ _)]
    have h2 : Lib.strCells ws.all ++ [.int .u8 (n)] = Lib.strCells (ws.add (beS 1 n.toNat)).all := by
      
      refine WS.add_row ws _ _ ?_
      have hN := HN.out
      simp [Lib.strCells, beS, beL]
      omega
    rw [← h1, ← h2]
    exact h
  · show Er σ _ _ ws.e
    rw [HA.out]
    rfl

set_option maxRecDepth 100000 in
set_option maxHeartbeats 2000000 in
theorem w_number2 (b : Nat) (σ : Nat → Addr) (g : Nat) (ws : WS) (he0 : ws.e = none) (hl : ws.all.size ≤ 140737488351232) (n : Int) (w : World) (hG : Gl b σ w) (hR : Wr b σ w g ws) (h0 : 0 ≤ n) (hn : n < 65536) :
    Calls Tryz.prog 152 #[.pointer (some ⟨g, 0, none⟩), .int .i64 n, .int .i64 2] w fun e w' => e = .returned (.tuple #[]) ∧ Wr b σ w' g (ws.add (beS 2 n.toNat)) ∧ From g w w' := by
  obtain ⟨i0, hi0, hz0, hz1, hz2⟩ := info_parts info_u8
  have HI0 : Hid (Tryz.prog.info? 5 = some i0) := hi0
  have HI1 := Lib.hid hz0
  have HI2 := Lib.hid hz1
  have HI3 := Lib.hid hz2
  clear hi0 hz0 hz1 hz2
  have h := w_off b σ g ws w hR
  rw [he0] at h
  simp only [Option.isSome] at h
  have HO := Lib.hid h
  obtain ⟨v, x, hb, ho, he, hbg⟩ := hR
  rw [he0] at he
  simp only [Er] at he
  subst he
  have hlt := hb.lt
  have HB0 := Lib.hid hb
  have HW0 := Lib.hid ho
  have HK0 : Hid (From g w w) := From.refl _ _
  have HA : Hid (ws.e = none) := he0
  have HN : Hid (0 ≤ n ∧ n < 65536) := ⟨h0, hn⟩
  obtain ⟨A0, c0, rfl⟩ := own_shape ho
  have hn2 : ¬ n < 0 := by omega
  have hn3 : ¬ 65536 ≤ n := by omega
  have hs8 : n / 256 < 256 := by omega
  have hs9 : 0 ≤ n / 256 := by omega
  clear h hb ho hG he0
  go_enter Tryz.func152, Tryz.ntmps152
  go_wp2_with fail
  refine HO.out.mono ?_; rintro e w' ⟨rfl, rfl⟩
  -- 0
  have d0 := HB0.out.cell 0
  simp at d0
  have HP0 : Hid (Pure w (World.alloc w (.cells #[.int .u8 (n / 256)] 5))) := (Keep.refl _ _).alloc _
  have hbs0 : g ≤ (World.alloc w (.cells #[.int .u8 (n / 256)] 5)).heap.size := by
    have h1 := HB0.out.lt
    have h2 := HP0.out.size
    omega
  have HBS0 := Lib.hid hbs0
  have HWP0 := Lib.hid (HP0.out.own HW0.out fun _ _ hf => hf)
  clear hbs0
  go_wp2_with (at_builtin; refine wpList_append_own _ rfl (.tmp 50) (.tmp 54) 99 rfl g 5 i0 (.int .u8 0) 1 1 Tryz.underlying99 HI0.out HI1.out HI2.out HI3.out rfl (by decide) (.slice A0 (ws.all.size) c0) (ws.all.size) (Lib.strCells ws.all) rfl HWP0.out ⟨w.heap.size, 0, none⟩ 1 1 [.int .u8 (n / 256)] rfl rfl ?news0 ?one0 ?mx0 ?bb0 ?bs0 ?k0)
  case mx0 => unfold maxLen; omega
  case bb0 => omega
  case bs0 => exact HBS0.out
  case news0 => exact cell_one_new _ _ _
  case one0 => intro u hu; simp at hu; rcases hu with rfl <;> rfl
  intro v1 y1 ho1 hg1 _
  have ho1 : World.ownsRow y1 g 5 1 v1 ((ws.all.size) + 1) (Lib.strCells ws.all ++ [.int .u8 (n / 256)]) := by simpa using ho1
  obtain ⟨A1, c1, rfl⟩ := own_shape ho1
  have hgr1 := wr_grown HB0.out HW0.out HP0.out hg1
  have hst1 := wr_stored (w0 := w) hgr1.1 ho1 hgr1.2
  have e1 := hgr1.1.cell 0
  have f1 := hgr1.1.frozen 0
  simp at e1
  have HB1 := Lib.hid hst1.1
  have HW1 := Lib.hid hst1.2.1
  have HK1 := Lib.hid (HK0.out.trans hst1.2.2)
  clear ho1 hg1 hgr1 hst1
  -- 1
  have d1 := HB1.out.cell 0
  simp at d1
  have HP1 : Hid (Pure (World.setCell y1 ⟨g, 0, none⟩ (.slice A1 (ws.all.size + 1) c1)) (World.alloc (World.setCell y1 ⟨g, 0, none⟩ (.slice A1 (ws.all.size + 1) c1)) (.cells #[.int .u8 (n % 256)] 5))) := (Keep.refl _ _).alloc _
  have hbs1 : g ≤ (World.alloc (World.setCell y1 ⟨g, 0, none⟩ (.slice A1 (ws.all.size + 1) c1)) (.cells #[.int .u8 (n % 256)] 5)).heap.size := by
    have h1 := HB1.out.lt
    have h2 := HP1.out.size
    omega
  have HBS1 := Lib.hid hbs1
  have HWP1 := Lib.hid (HP1.out.own HW1.out fun _ _ hf => hf)
  clear hbs1
  go_wp2_with (at_builtin; refine wpList_append_own _ rfl (.tmp 62) (.tmp 65) 99 rfl g 5 i0 (.int .u8 0) 1 1 Tryz.underlying99 HI0.out HI1.out HI2.out HI3.out rfl (by decide) (.slice A1 (ws.all.size + 1) c1) (ws.all.size + 1) (Lib.strCells ws.all ++ [.int .u8 (n / 256)]) rfl HWP1.out ⟨y1.heap.size, 0, none⟩ 1 1 [.int .u8 (n % 256)] rfl rfl ?news1 ?one1 ?mx1 ?bb1 ?bs1 ?k1)
  case mx1 => unfold maxLen; omega
  case bb1 => omega
  case bs1 => exact HBS1.out
  case news1 => intro j u hu; have h := cell_one_new (World.setCell y1 ⟨g, 0, none⟩ (.slice A1 (ws.all.size + 1) c1)) (.int .u8 (n % 256)) 5 j u hu; simpa [World.setCell] using h
  case one1 => intro u hu; simp at hu; rcases hu with rfl <;> rfl
  intro v2 y2 ho2 hg2 _
  have ho2 : World.ownsRow y2 g 5 1 v2 ((ws.all.size + 1) + 1) (Lib.strCells ws.all ++ [.int .u8 (n / 256), .int .u8 (n % 256)]) := by simpa using ho2
  obtain ⟨A2, c2, rfl⟩ := own_shape ho2
  have hgr2 := wr_grown HB1.out HW1.out HP1.out hg2
  have hst2 := wr_stored (w0 := (World.setCell y1 ⟨g, 0, none⟩ (.slice A1 (ws.all.size + 1) c1))) hgr2.1 ho2 hgr2.2
  have e2 := hgr2.1.cell 0
  have f2 := hgr2.1.frozen 0
  simp at e2
  have HB2 := Lib.hid hst2.1
  have HW2 := Lib.hid hst2.2.1
  have HK2 := Lib.hid (HK1.out.trans hst2.2.2)
  clear ho2 hg2 hgr2 hst2
  go_wp2_with fail
  go_end0
  refine ⟨rfl, ⟨_, .nilIface, HB2.out, ?_, ?_, hbg⟩, HK2.out⟩
  · have h := HW2.out
    have h1 : ws.all.size + 1 + 1 = (ws.add (beS 2 n.toNat)).all.size := by rw [← WS.add_size ws _ 2 (beS_size _ _)]
    have h2 : Lib.strCells ws.all ++ [.int .u8 (n / 256), .int .u8 (n % 256)] = Lib.strCells (ws.add (beS 2 n.toNat)).all := by
      
      refine WS.add_row ws _ _ ?_
      have hN := HN.out
      simp [Lib.strCells, beS, beL]
      omega
    rw [← h1, ← h2]
    exact h
  · show Er σ _ _ ws.e
    rw [HA.out]
    rfl

set_option maxRecDepth 100000 in
set_option maxHeartbeats 2000000 in
theorem w_number4 (b : Nat) (σ : Nat → Addr) (g : Nat) (ws : WS) (he0 : ws.e = none) (hl : ws.all.size ≤ 140737488351232) (n : Int) (w : World) (hG : Gl b σ w) (hR : Wr b σ w g ws) (h0 : 0 ≤ n) (hn : n < 4294967296) :
    Calls Tryz.prog 152 #[.pointer (some ⟨g, 0, none⟩), .int .i64 n, .int .i64 4] w fun e w' => e = .returned (.tuple #[]) ∧ Wr b σ w' g (ws.add (beS 4 n.toNat)) ∧ From g w w' := by
  obtain ⟨i0, hi0, hz0, hz1, hz2⟩ := info_parts info_u8
  have HI0 : Hid (Tryz.prog.info? 5 = some i0) := hi0
  have HI1 := Lib.hid hz0
  have HI2 := Lib.hid hz1
  have HI3 := Lib.hid hz2
  clear hi0 hz0 hz1 hz2
  have h := w_off b σ g ws w hR
  rw [he0] at h
  simp only [Option.isSome] at h
  have HO := Lib.hid h
  obtain ⟨v, x, hb, ho, he, hbg⟩ := hR
  rw [he0] at he
  simp only [Er] at he
  subst he
  have hlt := hb.lt
  have HB0 := Lib.hid hb
  have HW0 := Lib.hid ho
  have HK0 : Hid (From g w w) := From.refl _ _
  have HA : Hid (ws.e = none) := he0
  have HN : Hid (0 ≤ n ∧ n < 4294967296) := ⟨h0, hn⟩
  obtain ⟨A0, c0, rfl⟩ := own_shape ho
  have hn2 : ¬ n < 0 := by omega
  have hn3 : ¬ 4294967296 ≤ n := by omega
  clear h hb ho hG he0
  go_enter Tryz.func152, Tryz.ntmps152
  go_wp2_with fail
  refine HO.out.mono ?_; rintro e w' ⟨rfl, rfl⟩
  -- 0
  have d0 := HB0.out.cell 0
  simp at d0
  have HP0 : Hid (Pure w (World.alloc w (.cells #[.int .u8 (n / 16777216), .int .u8 (n / 65536 % 256)] 5))) := (Keep.refl _ _).alloc _
  have hbs0 : g ≤ (World.alloc w (.cells #[.int .u8 (n / 16777216), .int .u8 (n / 65536 % 256)] 5)).heap.size := by
    have h1 := HB0.out.lt
    have h2 := HP0.out.size
    omega
  have HBS0 := Lib.hid hbs0
  have HWP0 := Lib.hid (HP0.out.own HW0.out fun _ _ hf => hf)
  clear hbs0
  go_wp2_with (at_builtin; refine wpList_append_own _ rfl (.tmp 35) (.tmp 42) 99 rfl g 5 i0 (.int .u8 0) 1 1 Tryz.underlying99 HI0.out HI1.out HI2.out HI3.out rfl (by decide) (.slice A0 (ws.all.size) c0) (ws.all.size) (Lib.strCells ws.all) rfl HWP0.out ⟨w.heap.size, 0, none⟩ 2 2 [.int .u8 (n / 16777216), .int .u8 (n / 65536 % 256)] rfl rfl ?news0 ?one0 ?mx0 ?bb0 ?bs0 ?k0)
  case mx0 => unfold maxLen; omega
  case bb0 => omega
  case bs0 => exact HBS0.out
  case news0 => intro j u hu; match j, hu with | 0, hu => simp at hu; subst hu; simp [Addr.add] | 1, hu => simp at hu; subst hu; simp [Addr.add]
  case one0 => intro u hu; simp at hu; rcases hu with rfl | rfl <;> rfl
  intro v1 y1 ho1 hg1 _
  have ho1 : World.ownsRow y1 g 5 1 v1 ((ws.all.size) + 2) (Lib.strCells ws.all ++ [.int .u8 (n / 16777216), .int .u8 (n / 65536 % 256)]) := by simpa using ho1
  obtain ⟨A1, c1, rfl⟩ := own_shape ho1
  have hgr1 := wr_grown HB0.out HW0.out HP0.out hg1
  have hst1 := wr_stored (w0 := w) hgr1.1 ho1 hgr1.2
  have e1 := hgr1.1.cell 0
  have f1 := hgr1.1.frozen 0
  simp at e1
  have HB1 := Lib.hid hst1.1
  have HW1 := Lib.hid hst1.2.1
  have HK1 := Lib.hid (HK0.out.trans hst1.2.2)
  clear ho1 hg1 hgr1 hst1
  -- 1
  have d1 := HB1.out.cell 0
  simp at d1
  have HP1 : Hid (Pure (World.setCell y1 ⟨g, 0, none⟩ (.slice A1 (ws.all.size + 2) c1)) (World.alloc (World.setCell y1 ⟨g, 0, none⟩ (.slice A1 (ws.all.size + 2) c1)) (.cells #[.int .u8 (n / 256 % 256)] 5))) := (Keep.refl _ _).alloc _
  have hbs1 : g ≤ (World.alloc (World.setCell y1 ⟨g, 0, none⟩ (.slice A1 (ws.all.size + 2) c1)) (.cells #[.int .u8 (n / 256 % 256)] 5)).heap.size := by
    have h1 := HB1.out.lt
    have h2 := HP1.out.size
    omega
  have HBS1 := Lib.hid hbs1
  have HWP1 := Lib.hid (HP1.out.own HW1.out fun _ _ hf => hf)
  clear hbs1
  go_wp2_with (at_builtin; refine wpList_append_own _ rfl (.tmp 50) (.tmp 54) 99 rfl g 5 i0 (.int .u8 0) 1 1 Tryz.underlying99 HI0.out HI1.out HI2.out HI3.out rfl (by decide) (.slice A1 (ws.all.size + 2) c1) (ws.all.size + 2) (Lib.strCells ws.all ++ [.int .u8 (n / 16777216), .int .u8 (n / 65536 % 256)]) rfl HWP1.out ⟨y1.heap.size, 0, none⟩ 1 1 [.int .u8 (n / 256 % 256)] rfl rfl ?news1 ?one1 ?mx1 ?bb1 ?bs1 ?k1)
  case mx1 => unfold maxLen; omega
  case bb1 => omega
  case bs1 => exact HBS1.out
  case news1 => intro j u hu; have h := cell_one_new (World.setCell y1 ⟨g, 0, none⟩ (.slice A1 (ws.all.size + 2) c1)) (.int .u8 (n / 256 % 256)) 5 j u hu; simpa [World.setCell] using h
  case one1 => intro u hu; simp at hu; rcases hu with rfl <;> rfl
  intro v2 y2 ho2 hg2 _
  have ho2 : World.ownsRow y2 g 5 1 v2 ((ws.all.size + 2) + 1) (Lib.strCells ws.all ++ [.int .u8 (n / 16777216), .int .u8 (n / 65536 % 256), .int .u8 (n / 256 % 256)]) := by simpa using ho2
  obtain ⟨A2, c2, rfl⟩ := own_shape ho2
  have hgr2 := wr_grown HB1.out HW1.out HP1.out hg2
  have hst2 := wr_stored (w0 := (World.setCell y1 ⟨g, 0, none⟩ (.slice A1 (ws.all.size + 2) c1))) hgr2.1 ho2 hgr2.2
  have e2 := hgr2.1.cell 0
  have f2 := hgr2.1.frozen 0
  simp at e2
  have HB2 := Lib.hid hst2.1
  have HW2 := Lib.hid hst2.2.1
  have HK2 := Lib.hid (HK1.out.trans hst2.2.2)
  clear ho2 hg2 hgr2 hst2
  -- 2
  have d2 := HB2.out.cell 0
  simp at d2
  have HP2 : Hid (Pure (World.setCell y2 ⟨g, 0, none⟩ (.slice A2 (ws.all.size + 2 + 1) c2)) (World.alloc (World.setCell y2 ⟨g, 0, none⟩ (.slice A2 (ws.all.size + 2 + 1) c2)) (.cells #[.int .u8 (n % 256)] 5))) := (Keep.refl _ _).alloc _
  have hbs2 : g ≤ (World.alloc (World.setCell y2 ⟨g, 0, none⟩ (.slice A2 (ws.all.size + 2 + 1) c2)) (.cells #[.int .u8 (n % 256)] 5)).heap.size := by
    have h1 := HB2.out.lt
    have h2 := HP2.out.size
    omega
  have HBS2 := Lib.hid hbs2
  have HWP2 := Lib.hid (HP2.out.own HW2.out fun _ _ hf => hf)
  clear hbs2
  go_wp2_with (at_builtin; refine wpList_append_own _ rfl (.tmp 62) (.tmp 65) 99 rfl g 5 i0 (.int .u8 0) 1 1 Tryz.underlying99 HI0.out HI1.out HI2.out HI3.out rfl (by decide) (.slice A2 (ws.all.size + 2 + 1) c2) (ws.all.size + 2 + 1) (Lib.strCells ws.all ++ [.int .u8 (n / 16777216), .int .u8 (n / 65536 % 256), .int .u8 (n / 256 % 256)]) rfl HWP2.out ⟨y2.heap.size, 0, none⟩ 1 1 [.int .u8 (n % 256)] rfl rfl ?news2 ?one2 ?mx2 ?bb2 ?bs2 ?k2)
  case mx2 => unfold maxLen; omega
  case bb2 => omega
  case bs2 => exact HBS2.out
  case news2 => intro j u hu; have h := cell_one_new (World.setCell y2 ⟨g, 0, none⟩ (.slice A2 (ws.all.size + 2 + 1) c2)) (.int .u8 (n % 256)) 5 j u hu; simpa [World.setCell] using h
  case one2 => intro u hu; simp at hu; rcases hu with rfl <;> rfl
  intro v3 y3 ho3 hg3 _
  have ho3 : World.ownsRow y3 g 5 1 v3 ((ws.all.size + 2 + 1) + 1) (Lib.strCells ws.all ++ [.int .u8 (n / 16777216), .int .u8 (n / 65536 % 256), .int .u8 (n / 256 % 256), .int .u8 (n % 256)]) := by simpa using ho3
  obtain ⟨A3, c3, rfl⟩ := own_shape ho3
  have hgr3 := wr_grown HB2.out HW2.out HP2.out hg3
  have hst3 := wr_stored (w0 := (World.setCell y2 ⟨g, 0, none⟩ (.slice A2 (ws.all.size + 2 + 1) c2))) hgr3.1 ho3 hgr3.2
  have e3 := hgr3.1.cell 0
  have f3 := hgr3.1.frozen 0
  simp at e3
  have HB3 := Lib.hid hst3.1
  have HW3 := Lib.hid hst3.2.1
  have HK3 := Lib.hid (HK2.out.trans hst3.2.2)
  clear ho3 hg3 hgr3 hst3
  go_wp2_with fail
  go_end0
  refine ⟨rfl, ⟨_, .nilIface, HB3.out, ?_, ?_, hbg⟩, HK3.out⟩
  · have h := HW3.out
    have h1 : ws.all.size + 2 + 1 + 1 = (ws.add (beS 4 n.toNat)).all.size := by rw [← WS.add_size ws _ 4 (beS_size _ _)]
    have h2 : Lib.strCells ws.all ++ [.int .u8 (n / 16777216), .int .u8 (n / 65536 % 256), .int .u8 (n / 256 % 256), .int .u8 (n % 256)] = Lib.strCells (ws.add (beS 4 n.toNat)).all := by
      
      refine WS.add_row ws _ _ ?_
      have hN := HN.out
      simp [Lib.strCells, beS, beL]
      omega
    rw [← h1, ← h2]
    exact h
  · show Er σ _ _ ws.e
    rw [HA.out]
    rfl
end Go.Proofs.YthokkjdolcfhcaaGreatDoor

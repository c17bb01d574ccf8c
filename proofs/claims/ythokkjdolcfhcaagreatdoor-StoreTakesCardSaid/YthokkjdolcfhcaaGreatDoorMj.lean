/- The reference's variable byte integers: Take. The reference's letters: Bytes. The reference's letters: number, First, Cut, Check. The reference's letters: Cut, Check. The reference's reader: take. The reference's reader: numbers, raw bytes, bytes with their length ahead, what is left, whether it is done. The reference's reader: variable numbers, texts, what is left, whether it is done. The reference's reader: texts, what is left, whether it is done. -/
import Derived.Test.YthokkjdolcfhcaaGreatDoorMc
import Derived.Test.YthokkjdolcfhcaaGreatDoorMa
import Derived.Test.YthokkjdolcfhcaaGreatDoorMg
import Derived.Test.YthokkjdolcfhcaaGreatDoorMd
import Derived.Deep.DeepCutAuto

set_option linter.unusedVariables false
namespace Go.Proofs.YthokkjdolcfhcaaGreatDoor
open Go.RowKit

def TakePost (s : ByteArray) (w : World) (e : Ending) (w' : World) : Prop :=
  w = w' ∧ match vtake s with
  | .ok (n, j) => e = .returned (.tuple #[.int .i64 n, .int .i64 j, .int .i64 0, .int .i64 0])
  | .error f => e = .returned (.tuple #[.int .i64 0, .int .i64 0, .int .i64 f.k, .int .i64 f.a])

set_option maxRecDepth 100000 in
set_option maxHeartbeats 2000000 in
theorem q_take (s : ByteArray) (w : World) (hs : s.size ≤ 140737488351232) : Calls Tryz.prog 203 #[.string s] w (TakePost s w) := by
  go_enter Tryz.func203, Tryz.ntmps203
  go_wp2_with fail
  go_loop [6, 7, 8] (fun a c i => ∃ k n p : Nat, k ≤ 4 ∧ k ≤ s.size ∧ a = .int .i64 (n : Int) ∧ c = .int .i64 (p : Int) ∧ i = .int .i64 (k : Int) ∧ Hid (p = 128 ^ k) ∧ n < p ∧ p ≤ 268435456 ∧ Hid (vtake s = vtk (s.data.toList.drop k) k n)) (fun _ _ i => 4 - (intOf i).toNat)
  case atStart => exact ⟨0, 0, 1, by omega, by omega, rfl, rfl, rfl, rfl, by omega, by omega, by show _ = _; simp [vtake]⟩
  case round =>
    obtain ⟨k, n, p, hk, hks, rfl, rfl, rfl, hp, hn, hp2, HV⟩ := hrel
    by_cases hk4 : k = 4
    · have HR : Hid (vtake s = .error ⟨2, 129, 3⟩) := by
        show _ = _
        rw [HV.out, hk4]
        cases h : s.data.toList.drop 4 with
        | nil => rfl
        | cons c l => unfold vtk; rfl
      subst hk4
      go_wp2_with fail
      refine bodyPost_ret (v := .tuple #[.int .i64 0, .int .i64 0, .int .i64 2, .int .i64 3]) (by simp [results, Tryz.results203, go_sem]) rfl ?_
      unfold TakePost
      rw [HR.out]
      exact ⟨rfl, rfl⟩
    have hk3 : (k : Int) < 4 := by omega
    have HK3 : Hid (k ≤ 3) := by show _ ≤ _; omega
    by_cases hend : k = s.size
    · have HR : Hid (vtake s = .error ⟨1, 129, k⟩) := by
        show _ = _
        rw [HV.out, List.drop_eq_nil_of_le (by simp; omega), vtk, if_neg (by have := HK3.out; omega)]
      have he : ((k : Int) == (s.size : Int)) = true := by simp; omega
      have HSZ : Hid (s.size = k) := hend.symm
      clear hk4 hend HV
      go_wp2_with fail
      refine bodyPost_ret (v := .tuple #[.int .i64 0, .int .i64 0, .int .i64 1, .int .i64 s.size]) (by simp [results, Tryz.results203, go_sem]) rfl ?_
      unfold TakePost
      rw [HR.out, HSZ.out]
      exact ⟨rfl, rfl⟩
    · have hlt : k < s.size := by omega
      have HD := Lib.hid (drop_at s k hlt)
      have hx : (s.data.toList.getD k 0).toNat < 256 := UInt8.toNat_lt _
      have he : ((k : Int) == (s.size : Int)) = false := by simp; omega
      have hix := run_index_at (P := Tryz.prog) 9 s .i64 k k rfl hlt Tryz.underlying9
      have HA : Hid (∀ x : Nat, x = (s.data.toList.getD k 0).toNat → vtake s = if 128 ≤ x then vtk (s.data.toList.drop (k + 1)) (k + 1) (n + x % 128 * p) else if x = 0 ∧ 0 < k then .error ⟨2, 129, k⟩ else .ok (n + x * p, k + 1)) := fun x hx => by
        rw [HV.out, HD.out, vtk, if_neg (by have := HK3.out; omega), ← hx, hp.out]
      have HA2 := Lib.hid (HA.out _ rfl)
      clear hk4 hend HA HD HV
      generalize (s.data.toList.getD k 0).toNat = x at *
      have hpp : p ≤ 2097152 := by
        have h1 := HK3.out
        rw [hp.out]
        calc 128 ^ k ≤ 128 ^ 3 := Nat.pow_le_pow_right (by omega) h1
          _ = 2097152 := by decide
      have hprod : (x % 128) * p ≤ 127 * p := Nat.mul_le_mul_right _ (by omega)
      have hcast : ((x : Int) % 128) * (p : Int) = (((x % 128) * p : Nat) : Int) := by
        rw [Int.natCast_mul]; congr 1
      have hq : ∃ q : Nat, q = (x % 128) * p := ⟨_, rfl⟩
      obtain ⟨q, hq⟩ := hq
      rw [← hq] at hprod hcast
      have HQ := Lib.hid hq
      clear hq
      by_cases h128 : 128 ≤ x
      · have hx2 : ¬ (x : Int) < 128 := by omega
        have HR : Hid (vtake s = vtk (s.data.toList.drop (k + 1)) (k + 1) (n + q)) := by show _ = _; rw [HA2.out, if_pos h128, HQ.out]
        clear h128
        go_wp2_with fail
        go_round
        case rel =>
          refine ⟨k + 1, n + q, p * 128, by have := HK3.out; omega, by omega, by simp, by simp, by simp, ?_, ?_, by omega, HR⟩
          · show _ = _
            rw [hp.out, Nat.pow_succ]
          · omega
        case measure => simp [intOf] <;> omega
      · have hx2 : (x : Int) < 128 := by omega
        have hx3 : x % 128 = x := by omega
        by_cases h0 : x = 0
        · by_cases hk0 : k = 0
          · have HR : Hid (vtake s = .ok (n + q, k + 1)) := by show _ = _; rw [HA2.out, if_neg h128, if_neg (by omega), HQ.out, hx3]
            have hb : ((x : Int) == 0) = true := by simp [h0]
            have hk' : ¬ (0 : Int) < (k : Int) := by omega
            clear h128 h0 hk0 hx3
            go_wp2_with fail
            refine bodyPost_ret (v := .tuple #[.int .i64 (n + q : Nat), .int .i64 (k + 1 : Nat), .int .i64 0, .int .i64 0]) (by simp [results, Tryz.results203, go_sem]) rfl ?_
            unfold TakePost
            rw [HR.out]
            exact ⟨rfl, rfl⟩
          · have HR : Hid (vtake s = .error ⟨2, 129, k⟩) := by show _ = _; rw [HA2.out, if_neg h128, if_pos ⟨h0, by omega⟩]
            have hb : ((x : Int) == 0) = true := by simp [h0]
            have hk' : (0 : Int) < (k : Int) := by omega
            clear h128 h0 hk0 hx3
            go_wp2_with fail
            refine bodyPost_ret (v := .tuple #[.int .i64 0, .int .i64 0, .int .i64 2, .int .i64 k]) (by simp [results, Tryz.results203, go_sem]) rfl ?_
            unfold TakePost
            rw [HR.out]
            exact ⟨rfl, rfl⟩
        · have HR : Hid (vtake s = .ok (n + q, k + 1)) := by show _ = _; rw [HA2.out, if_neg h128, if_neg (by omega), HQ.out, hx3]
          have hb : ((x : Int) == 0) = false := by simp [h0]
          clear h128 h0 hx3
          go_wp2_with fail
          refine bodyPost_ret (v := .tuple #[.int .i64 (n + q : Nat), .int .i64 (k + 1 : Nat), .int .i64 0, .int .i64 0]) (by simp [results, Tryz.results203, go_sem]) rfl ?_
          unfold TakePost
          rw [HR.out]
          exact ⟨rfl, rfl⟩
end Go.Proofs.YthokkjdolcfhcaaGreatDoor

set_option linter.unusedVariables false
namespace Go.Proofs.YthokkjdolcfhcaaGreatDoor
open Go.RowKit

theorem r_bytes_conv {w : World} {cs : Array Value} {l : List UInt8} (hc : cs.toList = byteC l) (k : Nat) (hk : k = l.length) :
    (convert 99 9 (.slice (some ⟨w.heap.size, 0, none⟩) k k)).run Tryz.prog (w.alloc (.cells cs 5)) = .ok (.string ⟨l.toArray⟩) (w.alloc (.cells cs 5)) :=
  blk_string (Blk.new w _ _) hc k k hk

set_option maxRecDepth 100000 in
set_option maxHeartbeats 1000000 in
theorem q_bytes (n : Int) (w : World) : Calls Tryz.prog 252 #[.int .i64 n] w fun e w' => e = .returned (.string ⟨(rBytes n).toArray⟩) ∧ Pure w w' := by
  by_cases hb : n < 1 ∨ 1114111 < n ∨ (55296 ≤ n ∧ n ≤ 57343)
  · have HV : Hid (rBytes n = []) := by show _ = _; unfold rBytes; rw [if_pos hb]
    rcases hb with h | h | ⟨h, h2⟩
    · go_enter Tryz.func252, Tryz.ntmps252
      go_wp2_with fail
      go_ret
      rw [HV.out]
      exact ⟨rfl, Keep.refl _ _⟩
    · have h3 : ¬ n < 1 := by omega
      go_enter Tryz.func252, Tryz.ntmps252
      go_wp2_with fail
      go_ret
      rw [HV.out]
      exact ⟨rfl, Keep.refl _ _⟩
    · have h3 : ¬ n < 1 := by omega
      have h4 : ¬ 1114111 < n := by omega
      go_enter Tryz.func252, Tryz.ntmps252
      go_wp2_with fail
      go_ret
      rw [HV.out]
      exact ⟨rfl, Keep.refl _ _⟩
  · have h1 : ¬ n < 1 := by omega
    have h2 : ¬ 1114111 < n := by omega
    have h3 : ¬ (55296 ≤ n ∧ n ≤ 57343) := by omega
    by_cases ha : n < 128
    · have HV : Hid (rBytes n = [UInt8.ofNat n.toNat]) := by show _ = _; unfold rBytes; rw [if_neg hb, if_pos ha]
      have hs : ¬ 55296 ≤ n := by omega
      have hcv := r_bytes_conv (w := w) (cs := #[.int .u8 n]) (l := rBytes n) (by rw [HV.out]; simp [byteC]; omega) 1 (by rw [HV.out]; rfl)
      clear hb
      go_enter Tryz.func252, Tryz.ntmps252
      go_wp2_with fail
      go_ret
      exact ⟨rfl, (Keep.refl _ _).alloc _⟩
    by_cases hc : n < 2048
    · have HV : Hid (rBytes n = [UInt8.ofNat (192 + n.toNat / 64), UInt8.ofNat (128 + n.toNat % 64)]) := by show _ = _; unfold rBytes; rw [if_neg hb, if_neg ha, if_pos hc]
      have hs : ¬ 55296 ≤ n := by omega
      have hcv := r_bytes_conv (w := w) (cs := #[.int .u8 (192 + n / 64), .int .u8 (128 + n % 64)]) (l := rBytes n) (by rw [HV.out]; simp [byteC]; omega) 2 (by rw [HV.out]; rfl)
      clear hb
      go_enter Tryz.func252, Tryz.ntmps252
      go_wp2_with fail
      go_ret
      exact ⟨rfl, (Keep.refl _ _).alloc _⟩
    by_cases hd : n < 65536
    · have HV : Hid (rBytes n = [UInt8.ofNat (224 + n.toNat / 4096), UInt8.ofNat (128 + n.toNat / 64 % 64), UInt8.ofNat (128 + n.toNat % 64)]) := by show _ = _; unfold rBytes; rw [if_neg hb, if_neg ha, if_neg hc, if_pos hd]
      have hcv := r_bytes_conv (w := w) (cs := #[.int .u8 (224 + n / 4096), .int .u8 (128 + n / 64 % 64), .int .u8 (128 + n % 64)]) (l := rBytes n) (by rw [HV.out]; simp [byteC]; omega) 3 (by rw [HV.out]; rfl)
      clear hb
      by_cases hs : 55296 ≤ n
      · have hs2 : ¬ n ≤ 57343 := by omega
        clear h3
        go_enter Tryz.func252, Tryz.ntmps252
        go_wp2_with fail
        go_ret
        exact ⟨rfl, (Keep.refl _ _).alloc _⟩
      · clear h3
        go_enter Tryz.func252, Tryz.ntmps252
        go_wp2_with fail
        go_ret
        exact ⟨rfl, (Keep.refl _ _).alloc _⟩
    · have HV : Hid (rBytes n = [UInt8.ofNat (240 + n.toNat / 262144), UInt8.ofNat (128 + n.toNat / 4096 % 64), UInt8.ofNat (128 + n.toNat / 64 % 64), UInt8.ofNat (128 + n.toNat % 64)]) := by show _ = _; unfold rBytes; rw [if_neg hb, if_neg ha, if_neg hc, if_neg hd]
      have hcv := r_bytes_conv (w := w) (cs := #[.int .u8 (240 + n / 262144), .int .u8 (128 + n / 4096 % 64), .int .u8 (128 + n / 64 % 64), .int .u8 (128 + n % 64)]) (l := rBytes n) (by rw [HV.out]; simp [byteC]; omega) 4 (by rw [HV.out]; rfl)
      have hs : 55296 ≤ n := by omega
      have hs2 : ¬ n ≤ 57343 := by omega
      clear hb h3
      go_enter Tryz.func252, Tryz.ntmps252
      go_wp2_with fail
      go_ret
      exact ⟨rfl, (Keep.refl _ _).alloc _⟩
end Go.Proofs.YthokkjdolcfhcaaGreatDoor

set_option linter.unusedVariables false
namespace Go.Proofs.YthokkjdolcfhcaaGreatDoor
open Go.RowKit

/-- the number so far -/
def rStep (l : List UInt8) (base : Int) : Nat → Int
  | 0 => 0
  | 1 => rb l 0 - base
  | i + 2 => 64 * rStep l base (i + 1) + rb l (i + 1) - 128
theorem rb_bd (l : List UInt8) (k : Nat) : 0 ≤ rb l k ∧ rb l k < 256 := by
  have := UInt8.toNat_lt (l.getD k 0)
  unfold rb
  omega
theorem rStep_bd (l : List UInt8) (base : Int) (h : 0 ≤ base ∧ base < 256) : ∀ i, i ≤ 4 → -1000000000 ≤ rStep l base i ∧ rStep l base i ≤ 1000000000
  | 0, _ => by simp [rStep]
  | 1, _ => by have := rb_bd l 0; simp only [rStep, Nat.zero_add, Nat.reduceAdd]; omega
  | 2, _ => by have := rb_bd l 0; have := rb_bd l 1; simp only [rStep, Nat.zero_add, Nat.reduceAdd]; omega
  | 3, _ => by have := rb_bd l 0; have := rb_bd l 1; have := rb_bd l 2; simp only [rStep, Nat.zero_add, Nat.reduceAdd]; omega
  | 4, _ => by have := rb_bd l 0; have := rb_bd l 1; have := rb_bd l 2; have := rb_bd l 3; simp only [rStep, Nat.zero_add, Nat.reduceAdd]; omega
  | i + 5, h => by omega

theorem q_index (s : ByteArray) (k : Nat) (i : Int) (hi : i = k) (h : k < s.size) (w : World) : (Instr.index 9 (.string s) (.int .i64 i)).run Tryz.prog w = .ok (.int .u8 (rb s.data.toList k)) w :=
  run_index_at (P := Tryz.prog) 9 s .i64 i k hi h Tryz.underlying9 w

set_option maxRecDepth 100000 in
set_option maxHeartbeats 1000000 in
theorem q_number1 (s : ByteArray) (w : World) (hl : 1 ≤ s.size) : Calls Tryz.prog 253 #[.string s, .int .i64 1] w fun e w' => e = .returned (.int .i64 (rNumber s.data.toList 1)) ∧ w = w' := by
  have hix := q_index s 0 0 rfl hl
  have hb := rb_bd s.data.toList 0
  have HV : Hid (rNumber s.data.toList 1 = rb s.data.toList 0) := rfl
  generalize rb s.data.toList 0 = r at *
  go_enter Tryz.func253, Tryz.ntmps253
  go_wp2_with fail
  go_ret
  rw [HV.out]
  exact ⟨rfl, rfl⟩
set_option maxRecDepth 100000 in
set_option maxHeartbeats 1000000 in
theorem q_number2 (s : ByteArray) (w : World) (hl : 2 ≤ s.size) (hs : s.size ≤ 140737488351232) : Calls Tryz.prog 253 #[.string s, .int .i64 2] w fun e w' => e = .returned (.int .i64 (rNumber s.data.toList 2)) ∧ w = w' := by
  have hix := q_index s 0 0 rfl (by omega)
  have HIX : Hid (∀ k, k < s.size → ∀ w : World, (Instr.index 9 (.string s) (.int .i64 (k : Int))).run Tryz.prog w = .ok (.int .u8 (rb s.data.toList k)) w) := fun k hk w => q_index s k k rfl hk w
  have hb := rb_bd s.data.toList 0
  have HBD := Lib.hid (rStep_bd s.data.toList 192 (by decide))
  have HV : Hid (rNumber s.data.toList 2 = rStep s.data.toList 192 2) := rfl
  have H1 : Hid (rb s.data.toList 0 - 192 = rStep s.data.toList 192 1) := rfl
  go_enter Tryz.func253, Tryz.ntmps253
  go_wp2_with fail
  go_loop [5, 6] (fun n i => ∃ (k : Nat) (v : Int), 1 ≤ k ∧ k ≤ 2 ∧ i = .int .i64 (k : Int) ∧ n = .int .i64 v ∧ Hid (v = rStep s.data.toList 192 k)) (fun _ i => 2 - (intOf i).toNat)
  case atStart => exact ⟨1, _, by omega, by omega, rfl, rfl, H1⟩
  case round =>
    obtain ⟨k, v, hk1, hk, rfl, rfl, hv⟩ := hrel
    have hbd := HBD.out k (by omega)
    rw [← hv.out] at hbd
    by_cases hkm : k < 2
    · have hix2 := HIX.out k (by omega)
      have hb2 := rb_bd s.data.toList k
      have HS : Hid (64 * v + rb s.data.toList k - 128 = rStep s.data.toList 192 (k + 1)) := by
        obtain ⟨j, rfl⟩ : ∃ j, k = j + 1 := ⟨k - 1, by omega⟩
        show _ = _
        rw [hv.out]
        rfl
      clear hix hb
      generalize rb s.data.toList k = r at *
      go_wp2_with fail
      go_round
      case rel => exact ⟨k + 1, _, by omega, by omega, by simp, rfl, HS⟩
      case measure => simp [intOf]; omega
    · obtain rfl : k = 2 := by omega
      clear hix hb hkm
      go_wp2_with fail
      go_ret
      rw [HV.out, ← hv.out]
      exact ⟨rfl, rfl⟩
set_option maxRecDepth 100000 in
set_option maxHeartbeats 1000000 in
theorem q_number3 (s : ByteArray) (w : World) (hl : 3 ≤ s.size) (hs : s.size ≤ 140737488351232) : Calls Tryz.prog 253 #[.string s, .int .i64 3] w fun e w' => e = .returned (.int .i64 (rNumber s.data.toList 3)) ∧ w = w' := by
  have hix := q_index s 0 0 rfl (by omega)
  have HIX : Hid (∀ k, k < s.size → ∀ w : World, (Instr.index 9 (.string s) (.int .i64 (k : Int))).run Tryz.prog w = .ok (.int .u8 (rb s.data.toList k)) w) := fun k hk w => q_index s k k rfl hk w
  have hb := rb_bd s.data.toList 0
  have HBD := Lib.hid (rStep_bd s.data.toList 224 (by decide))
  have HV : Hid (rNumber s.data.toList 3 = rStep s.data.toList 224 3) := rfl
  have H1 : Hid (rb s.data.toList 0 - 224 = rStep s.data.toList 224 1) := rfl
  go_enter Tryz.func253, Tryz.ntmps253
  go_wp2_with fail
  go_loop [5, 6] (fun n i => ∃ (k : Nat) (v : Int), 1 ≤ k ∧ k ≤ 3 ∧ i = .int .i64 (k : Int) ∧ n = .int .i64 v ∧ Hid (v = rStep s.data.toList 224 k)) (fun _ i => 3 - (intOf i).toNat)
  case atStart => exact ⟨1, _, by omega, by omega, rfl, rfl, H1⟩
  case round =>
    obtain ⟨k, v, hk1, hk, rfl, rfl, hv⟩ := hrel
    have hbd := HBD.out k (by omega)
    rw [← hv.out] at hbd
    by_cases hkm : k < 3
    · have hix2 := HIX.out k (by omega)
      have hb2 := rb_bd s.data.toList k
      have HS : Hid (64 * v + rb s.data.toList k - 128 = rStep s.data.toList 224 (k + 1)) := by
        obtain ⟨j, rfl⟩ : ∃ j, k = j + 1 := ⟨k - 1, by omega⟩
        show _ = _
        rw [hv.out]
        rfl
      clear hix hb
      generalize rb s.data.toList k = r at *
      go_wp2_with fail
      go_round
      case rel => exact ⟨k + 1, _, by omega, by omega, by simp, rfl, HS⟩
      case measure => simp [intOf]; omega
    · obtain rfl : k = 3 := by omega
      clear hix hb hkm
      go_wp2_with fail
      go_ret
      rw [HV.out, ← hv.out]
      exact ⟨rfl, rfl⟩
set_option maxRecDepth 100000 in
set_option maxHeartbeats 1000000 in
theorem q_number4 (s : ByteArray) (w : World) (hl : 4 ≤ s.size) (hs : s.size ≤ 140737488351232) : Calls Tryz.prog 253 #[.string s, .int .i64 4] w fun e w' => e = .returned (.int .i64 (rNumber s.data.toList 4)) ∧ w = w' := by
  have hix := q_index s 0 0 rfl (by omega)
  have HIX : Hid (∀ k, k < s.size → ∀ w : World, (Instr.index 9 (.string s) (.int .i64 (k : Int))).run Tryz.prog w = .ok (.int .u8 (rb s.data.toList k)) w) := fun k hk w => q_index s k k rfl hk w
  have hb := rb_bd s.data.toList 0
  have HBD := Lib.hid (rStep_bd s.data.toList 240 (by decide))
  have HV : Hid (rNumber s.data.toList 4 = rStep s.data.toList 240 4) := rfl
  have H1 : Hid (rb s.data.toList 0 - 240 = rStep s.data.toList 240 1) := rfl
  go_enter Tryz.func253, Tryz.ntmps253
  go_wp2_with fail
  go_loop [5, 6] (fun n i => ∃ (k : Nat) (v : Int), 1 ≤ k ∧ k ≤ 4 ∧ i = .int .i64 (k : Int) ∧ n = .int .i64 v ∧ Hid (v = rStep s.data.toList 240 k)) (fun _ i => 4 - (intOf i).toNat)
  case atStart => exact ⟨1, _, by omega, by omega, rfl, rfl, H1⟩
  case round =>
    obtain ⟨k, v, hk1, hk, rfl, rfl, hv⟩ := hrel
    have hbd := HBD.out k (by omega)
    rw [← hv.out] at hbd
    by_cases hkm : k < 4
    · have hix2 := HIX.out k (by omega)
      have hb2 := rb_bd s.data.toList k
      have HS : Hid (64 * v + rb s.data.toList k - 128 = rStep s.data.toList 240 (k + 1)) := by
        obtain ⟨j, rfl⟩ : ∃ j, k = j + 1 := ⟨k - 1, by omega⟩
        show _ = _
        rw [hv.out]
        rfl
      clear hix hb
      generalize rb s.data.toList k = r at *
      go_wp2_with fail
      go_round
      case rel => exact ⟨k + 1, _, by omega, by omega, by simp, rfl, HS⟩
      case measure => simp [intOf]; omega
    · obtain rfl : k = 4 := by omega
      clear hix hb hkm
      go_wp2_with fail
      go_ret
      rw [HV.out, ← hv.out]
      exact ⟨rfl, rfl⟩

-- FIRST
theorem rFirst_at {l : List UInt8} {k : Nat} (h1 : 1 ≤ k) (h4 : k ≤ 4) (hn : ∀ j, 1 ≤ j → j < k → ¬ rIs l j) (hk : rIs l k) : rFirst l = k := by
  have hk' : k = 1 ∨ k = 2 ∨ k = 3 ∨ k = 4 := by omega
  unfold rFirst
  rcases hk' with rfl | rfl | rfl | rfl
  · rw [if_pos hk]
  · rw [if_neg (hn 1 (by omega) (by omega)), if_pos hk]
  · rw [if_neg (hn 1 (by omega) (by omega)), if_neg (hn 2 (by omega) (by omega)), if_pos hk]
  · rw [if_neg (hn 1 (by omega) (by omega)), if_neg (hn 2 (by omega) (by omega)), if_neg (hn 3 (by omega) (by omega)), if_pos hk]
theorem rFirst_no {l : List UInt8} (hn : ∀ j, 1 ≤ j → j < 5 → ¬ rIs l j) : rFirst l = 0 := by
  unfold rFirst
  rw [if_neg (hn 1 (by omega) (by omega)), if_neg (hn 2 (by omega) (by omega)), if_neg (hn 3 (by omega) (by omega)), if_neg (hn 4 (by omega) (by omega))]
theorem rIs_words (s : ByteArray) (k : Nat) (hk : k ≤ s.size) (y : List UInt8) (hy : y = rBytes (rNumber s.data.toList k)) :
    rIs s.data.toList k ↔ (y.isEmpty = false ∧ (y == (s.extract 0 k).toList) = true) := by
  subst hy
  rw [Lib.toList_data, Lib.extract_data]
  unfold rIs
  have hl : s.data.toList.length = s.size := by simp
  simp only [List.drop_zero, Nat.sub_zero, beq_iff_eq, List.isEmpty_eq_false_iff]
  constructor
  · rintro ⟨_, h2, h3⟩; exact ⟨h2, h3⟩
  · rintro ⟨h2, h3⟩; exact ⟨by omega, h2, h3⟩

set_option maxRecDepth 100000 in
set_option maxHeartbeats 4000000 in
theorem q_first (s : ByteArray) (w : World) (hs : s.size ≤ 140737488351232) : Calls Tryz.prog 243 #[.string s] w fun e w' => e = .returned (.int .i64 (rFirst s.data.toList : Nat)) ∧ Pure w w' := by
  have hll : s.data.toList.length = s.size := by simp
  go_enter Tryz.func243, Tryz.ntmps243
  go_wp2_with fail
  go_loopw [3] (fun i wr => ∃ k : Nat, 1 ≤ k ∧ k ≤ 5 ∧ i = .int .i64 (k : Int) ∧ Hid (∀ j, 1 ≤ j → j < k → ¬ rIs s.data.toList j) ∧ Hid (Pure w wr)) (fun i _ => 5 - (intOf i).toNat)
  case atStart => exact ⟨1, by omega, by omega, rfl, fun j h1 h2 => by omega, Keep.refl _ _⟩
  case round =>
    obtain ⟨k, hk1, hk5, rfl, HN, HP⟩ := hrel
    have hk : k = 1 ∨ k = 2 ∨ k = 3 ∨ k = 4 ∨ k = 5 := by omega
    rcases hk with rfl | rfl | rfl | rfl | rfl
    · by_cases hz : 1 ≤ s.size
      · have HC : Hid (Calls Tryz.prog 253 #[.string s, .int .i64 1] wr fun e w' => e = .returned (.int .i64 (rNumber s.data.toList 1)) ∧ wr = w') := q_number1 s wr hz
        have HW := Lib.hid (rIs_words s 1 hz _ rfl)
        go_wp2_with fail
        refine HC.out.mono ?_; rintro e w' ⟨rfl, rfl⟩
        go_wp2_with fail
        refine (q_bytes _ _).mono ?_; rintro e w2 ⟨rfl, hP2⟩
        have HP2 := Lib.hid (HP.out.trans hP2)
        clear hP2 HC
        generalize rBytes (rNumber s.data.toList 1) = y at *
        cases h1 : y.isEmpty with
        | true =>
          have HR : Hid (¬ rIs s.data.toList 1) := fun h => by have := (HW.out.1 h).1; rw [h1] at this; cases this
          go_wp2_with fail
          go_round
          case rel => exact ⟨2, by omega, by omega, rfl, fun j a b => by
            rcases Nat.lt_or_ge j 1 with h | h
            · exact HN.out j a h
            · obtain rfl : j = 1 := by omega
              exact HR.out, HP2⟩
          case measure => simp [intOf]
        | false =>
          cases h2 : (y == (s.extract 0 1).toList) with
          | true =>
            have HR : Hid (rFirst s.data.toList = 1) := rFirst_at (by omega) (by omega) HN.out (HW.out.2 ⟨h1, h2⟩)
            go_wp2_with fail
            go_ret
            rw [HR.out]
            exact ⟨rfl, HP2.out⟩
          | false =>
            have HR : Hid (¬ rIs s.data.toList 1) := fun h => by have := (HW.out.1 h).2; rw [h2] at this; cases this
            go_wp2_with fail
            go_round
            case rel => exact ⟨2, by omega, by omega, rfl, fun j a b => by
              rcases Nat.lt_or_ge j 1 with h | h
              · exact HN.out j a h
              · obtain rfl : j = 1 := by omega
                exact HR.out, HP2⟩
            case measure => simp [intOf]
      · have HR : Hid (rFirst s.data.toList = 0) := rFirst_no fun j a b => by
          rcases Nat.lt_or_ge j 1 with h | h
          · exact HN.out j a h
          · exact rIs_short (by omega)
        go_wp2_with fail
        go_ret
        rw [HR.out]
        exact ⟨rfl, HP.out⟩
    · by_cases hz : 2 ≤ s.size
      · have HC : Hid (Calls Tryz.prog 253 #[.string s, .int .i64 2] wr fun e w' => e = .returned (.int .i64 (rNumber s.data.toList 2)) ∧ wr = w') := q_number2 s wr hz hs
        have HW := Lib.hid (rIs_words s 2 hz _ rfl)
        go_wp2_with fail
        refine HC.out.mono ?_; rintro e w' ⟨rfl, rfl⟩
        go_wp2_with fail
        refine (q_bytes _ _).mono ?_; rintro e w2 ⟨rfl, hP2⟩
        have HP2 := Lib.hid (HP.out.trans hP2)
        clear hP2 HC
        generalize rBytes (rNumber s.data.toList 2) = y at *
        cases h1 : y.isEmpty with
        | true =>
          have HR : Hid (¬ rIs s.data.toList 2) := fun h => by have := (HW.out.1 h).1; rw [h1] at this; cases this
          go_wp2_with fail
          go_round
          case rel => exact ⟨3, by omega, by omega, rfl, fun j a b => by
            rcases Nat.lt_or_ge j 2 with h | h
            · exact HN.out j a h
            · obtain rfl : j = 2 := by omega
              exact HR.out, HP2⟩
          case measure => simp [intOf]
        | false =>
          cases h2 : (y == (s.extract 0 2).toList) with
          | true =>
            have HR : Hid (rFirst s.data.toList = 2) := rFirst_at (by omega) (by omega) HN.out (HW.out.2 ⟨h1, h2⟩)
            go_wp2_with fail
            go_ret
            rw [HR.out]
            exact ⟨rfl, HP2.out⟩
          | false =>
            have HR : Hid (¬ rIs s.data.toList 2) := fun h => by have := (HW.out.1 h).2; rw [h2] at this; cases this
            go_wp2_with fail
            go_round
            case rel => exact ⟨3, by omega, by omega, rfl, fun j a b => by
              rcases Nat.lt_or_ge j 2 with h | h
              · exact HN.out j a h
              · obtain rfl : j = 2 := by omega
                exact HR.out, HP2⟩
            case measure => simp [intOf]
      · have HR : Hid (rFirst s.data.toList = 0) := rFirst_no fun j a b => by
          rcases Nat.lt_or_ge j 2 with h | h
          · exact HN.out j a h
          · exact rIs_short (by omega)
        go_wp2_with fail
        go_ret
        rw [HR.out]
        exact ⟨rfl, HP.out⟩
    · by_cases hz : 3 ≤ s.size
      · have HC : Hid (Calls Tryz.prog 253 #[.string s, .int .i64 3] wr fun e w' => e = .returned (.int .i64 (rNumber s.data.toList 3)) ∧ wr = w') := q_number3 s wr hz hs
        have HW := Lib.hid (rIs_words s 3 hz _ rfl)
        go_wp2_with fail
        refine HC.out.mono ?_; rintro e w' ⟨rfl, rfl⟩
        go_wp2_with fail
        refine (q_bytes _ _).mono ?_; rintro e w2 ⟨rfl, hP2⟩
        have HP2 := Lib.hid (HP.out.trans hP2)
        clear hP2 HC
        generalize rBytes (rNumber s.data.toList 3) = y at *
        cases h1 : y.isEmpty with
        | true =>
          have HR : Hid (¬ rIs s.data.toList 3) := fun h => by have := (HW.out.1 h).1; rw [h1] at this; cases this
          go_wp2_with fail
          go_round
          case rel => exact ⟨4, by omega, by omega, rfl, fun j a b => by
            rcases Nat.lt_or_ge j 3 with h | h
            · exact HN.out j a h
            · obtain rfl : j = 3 := by omega
              exact HR.out, HP2⟩
          case measure => simp [intOf]
        | false =>
          cases h2 : (y == (s.extract 0 3).toList) with
          | true =>
            have HR : Hid (rFirst s.data.toList = 3) := rFirst_at (by omega) (by omega) HN.out (HW.out.2 ⟨h1, h2⟩)
            go_wp2_with fail
            go_ret
            rw [HR.out]
            exact ⟨rfl, HP2.out⟩
          | false =>
            have HR : Hid (¬ rIs s.data.toList 3) := fun h => by have := (HW.out.1 h).2; rw [h2] at this; cases this
            go_wp2_with fail
            go_round
            case rel => exact ⟨4, by omega, by omega, rfl, fun j a b => by
              rcases Nat.lt_or_ge j 3 with h | h
              · exact HN.out j a h
              · obtain rfl : j = 3 := by omega
                exact HR.out, HP2⟩
            case measure => simp [intOf]
      · have HR : Hid (rFirst s.data.toList = 0) := rFirst_no fun j a b => by
          rcases Nat.lt_or_ge j 3 with h | h
          · exact HN.out j a h
          · exact rIs_short (by omega)
        go_wp2_with fail
        go_ret
        rw [HR.out]
        exact ⟨rfl, HP.out⟩
    · by_cases hz : 4 ≤ s.size
      · have HC : Hid (Calls Tryz.prog 253 #[.string s, .int .i64 4] wr fun e w' => e = .returned (.int .i64 (rNumber s.data.toList 4)) ∧ wr = w') := q_number4 s wr hz hs
        have HW := Lib.hid (rIs_words s 4 hz _ rfl)
        go_wp2_with fail
        refine HC.out.mono ?_; rintro e w' ⟨rfl, rfl⟩
        go_wp2_with fail
        refine (q_bytes _ _).mono ?_; rintro e w2 ⟨rfl, hP2⟩
        have HP2 := Lib.hid (HP.out.trans hP2)
        clear hP2 HC
        generalize rBytes (rNumber s.data.toList 4) = y at *
        cases h1 : y.isEmpty with
        | true =>
          have HR : Hid (¬ rIs s.data.toList 4) := fun h => by have := (HW.out.1 h).1; rw [h1] at this; cases this
          go_wp2_with fail
          go_round
          case rel => exact ⟨5, by omega, by omega, rfl, fun j a b => by
            rcases Nat.lt_or_ge j 4 with h | h
            · exact HN.out j a h
            · obtain rfl : j = 4 := by omega
              exact HR.out, HP2⟩
          case measure => simp [intOf]
        | false =>
          cases h2 : (y == (s.extract 0 4).toList) with
          | true =>
            have HR : Hid (rFirst s.data.toList = 4) := rFirst_at (by omega) (by omega) HN.out (HW.out.2 ⟨h1, h2⟩)
            go_wp2_with fail
            go_ret
            rw [HR.out]
            exact ⟨rfl, HP2.out⟩
          | false =>
            have HR : Hid (¬ rIs s.data.toList 4) := fun h => by have := (HW.out.1 h).2; rw [h2] at this; cases this
            go_wp2_with fail
            go_round
            case rel => exact ⟨5, by omega, by omega, rfl, fun j a b => by
              rcases Nat.lt_or_ge j 4 with h | h
              · exact HN.out j a h
              · obtain rfl : j = 4 := by omega
                exact HR.out, HP2⟩
            case measure => simp [intOf]
      · have HR : Hid (rFirst s.data.toList = 0) := rFirst_no fun j a b => by
          rcases Nat.lt_or_ge j 4 with h | h
          · exact HN.out j a h
          · exact rIs_short (by omega)
        go_wp2_with fail
        go_ret
        rw [HR.out]
        exact ⟨rfl, HP.out⟩
    · have HR : Hid (rFirst s.data.toList = 0) := rFirst_no HN.out
      go_wp2_with fail
      go_ret
      rw [HR.out]
      exact ⟨rfl, HP.out⟩
end Go.Proofs.YthokkjdolcfhcaaGreatDoor

set_option linter.unusedVariables false
namespace Go.Proofs.YthokkjdolcfhcaaGreatDoor
open Go.RowKit

theorem q_first_at (s : ByteArray) (a : Nat) (w : World) (hs : s.size ≤ 140737488351232) : Calls Tryz.prog 243 #[.string (s.extract a s.size)] w fun e w' => e = .returned (.int .i64 (uFirst (s.data.toList.drop a) : Nat)) ∧ Pure w w' := by
  have h := q_first (s.extract a s.size) w (by simp; omega)
  rw [Lib.extract_data, List.take_of_length_le (by simp), rFirst_eq] at h
  exact h

set_option maxRecDepth 100000 in
set_option maxHeartbeats 1000000 in
theorem q_cut (s : ByteArray) (w : World) (hs2 : s.size ≤ 140737488351232) :
    Calls Tryz.prog 215 #[.string s] w fun e w' => e = .returned (.int .i64 ((uWalk s.size s.data.toList).2 : Nat)) ∧ Pure w w' := by
  go_enter Tryz.func215, Tryz.ntmps215
  go_wp2_with fail
  go_loopw [3] (fun a wr => ∃ a1 : Nat, a1 ≤ s.size ∧ a = .int .i64 a1 ∧ Hid ((uWalk s.size s.data.toList).2 = (uWalk (s.size - a1) (s.data.toList.drop a1)).2 + a1) ∧ Hid (Pure w wr)) (fun a _ => s.size - (intOf a).toNat)
  case atStart => exact ⟨0, by omega, rfl, by simp [Hid], Keep.refl _ _⟩
  case round =>
    obtain ⟨a1, ha, rfl, HW, HP⟩ := hrel
    by_cases hlt : a1 < s.size
    · have s1 : (0 : Int) ≤ (a1 : Int) := by omega
      have s2 : (a1 : Int) ≤ (s.size : Int) := by omega
      have HF : Hid (∀ w, Calls Tryz.prog 243 #[.string (s.extract a1 s.size)] w fun e w' => e = .returned (.int .i64 (uFirst (s.data.toList.drop a1) : Nat)) ∧ Pure w w') := fun w => q_first_at s a1 w hs2
      have hle := uFirst_le (s.data.toList.drop a1)
      have hl2 : (s.data.toList.drop a1).length = s.size - a1 := by simp
      rw [hl2] at hle
      by_cases hu : uFirst (s.data.toList.drop a1) = 0
      · have HR : Hid ((uWalk s.size s.data.toList).2 = a1) := by
          show _ = _
          rw [HW.out, uWalk_stop _ _ _ hu]; simp
        have HF0 : Hid (∀ w, Calls Tryz.prog 243 #[.string (s.extract a1 s.size)] w fun e w' => e = .returned (.int .i64 0) ∧ Pure w w') := by have h := HF.out; rw [hu] at h; exact h
        clear hu HW hl2 hle HF
        go_wp2_with fail
        refine (HF0.out _).mono ?_; rintro e w1 ⟨rfl, hP⟩
        have HP1 := Lib.hid (HP.out.trans hP)
        clear hP
        go_wp2_with fail
        go_ret
        rw [HR.out]
        exact ⟨rfl, HP1.out⟩
      · have HR : Hid ((uWalk s.size s.data.toList).2 = (uWalk (s.size - (a1 + uFirst (s.data.toList.drop a1))) (s.data.toList.drop (a1 + uFirst (s.data.toList.drop a1)))).2 + (a1 + uFirst (s.data.toList.drop a1))) := by
          show _ = _
          rw [HW.out, uWalk_step _ s.size a1 (by simp) hlt hu]
          simp only
          omega
        clear hl2 HW
        generalize uFirst (s.data.toList.drop a1) = u at *
        have hu0 : (0 : Int) < (u : Int) := by omega
        clear hu
        go_wp2_with fail
        refine (HF.out _).mono ?_; rintro e w1 ⟨rfl, hP⟩
        have HP1 := Lib.hid (HP.out.trans hP)
        clear hP
        go_wp2_with fail
        refine (HF.out _).mono ?_; rintro e w2 ⟨rfl, hP⟩
        have HP2 := Lib.hid (HP1.out.trans hP)
        clear hP
        go_wp2_with fail
        go_roundw
        case rel => exact ⟨a1 + u, by omega, by go_num, HR, HP2⟩
        case measure => simp [intOf]; omega
    · obtain rfl : a1 = s.size := by omega
      have HR : Hid ((uWalk s.size s.data.toList).2 = s.size) := by
        show _ = _
        rw [HW.out]; simp [uWalk]
      clear HW hlt
      go_wp2_with fail
      go_ret
      rw [HR.out]
      exact ⟨rfl, HP.out⟩

set_option maxRecDepth 100000 in
set_option maxHeartbeats 1000000 in
theorem q_check (s : ByteArray) (w : World) (hs2 : s.size ≤ 140737488351232) :
    Calls Tryz.prog 161 #[.string s] w fun e w' => e = .returned (.tuple #[.int .i64 (fk (uCheck s)), .int .i64 (fa (uCheck s))]) ∧ Pure w w' := by
  by_cases hl : 65535 < s.size
  · have HR : Hid (uCheck s = some ⟨4, 129, 65535⟩) := by unfold uCheck; rw [if_pos hl]; rfl
    go_enter Tryz.func161, Tryz.ntmps161
    go_wp2_with fail
    refine bodyPost_ret (v := .tuple #[.int .i64 4, .int .i64 65535]) (by simp [results, Tryz.results161, go_sem]) rfl ?_
    rw [HR.out]
    exact ⟨rfl, Keep.refl _ _⟩
  · have HC := Lib.hid (q_cut s w hs2)
    have hle : s.size ≤ 65535 := by omega
    have hle2 := (uWalk_le s.size s.data.toList).1
    have hll : s.data.toList.length = s.size := by simp
    rw [hll] at hle2
    by_cases hlt : (uWalk s.size s.data.toList).2 < s.size
    · have HR : Hid (uCheck s = some ⟨2, 129, (uWalk s.size s.data.toList).2⟩) := by unfold uCheck; rw [if_neg hl, if_pos hlt]; rfl
      clear hl hll
      generalize (uWalk s.size s.data.toList).2 = u at *
      go_enter Tryz.func161, Tryz.ntmps161
      go_wp2_with fail
      refine HC.out.mono ?_; rintro e w1 ⟨rfl, hP⟩
      have HP := Lib.hid hP
      clear hP
      go_wp2_with fail
      refine bodyPost_ret (v := .tuple #[.int .i64 2, .int .i64 u]) (by simp [results, Tryz.results161, go_sem]) rfl ?_
      rw [HR.out]
      exact ⟨rfl, HP.out⟩
    · have HR : Hid (uCheck s = none) := by unfold uCheck; rw [if_neg hl, if_neg hlt]; rfl
      clear hl hll
      generalize (uWalk s.size s.data.toList).2 = u at *
      go_enter Tryz.func161, Tryz.ntmps161
      go_wp2_with fail
      refine HC.out.mono ?_; rintro e w1 ⟨rfl, hP⟩
      have HP := Lib.hid hP
      clear hP
      go_wp2_with fail
      refine bodyPost_ret (v := .tuple #[.int .i64 0, .int .i64 0]) (by simp [results, Tryz.results161, go_sem]) rfl ?_
      rw [HR.out]
      exact ⟨rfl, HP.out⟩
end Go.Proofs.YthokkjdolcfhcaaGreatDoor

set_option linter.unusedVariables false
namespace Go.Proofs.YthokkjdolcfhcaaGreatDoor
open Go.RowKit

/-- The reference's reader in memory. -/
def Rf (w : World) (g : Nat) (st : RS) : Prop :=
  Blk w g 88 #[.string st.s, .int .i64 st.at_, .int .i64 (fk st.e), .int .i64 (fa st.e)] ∧ st.Ok ∧ st.OkE

theorem Rf.pure {w w' : World} {g : Nat} {st : RS} (h : Rf w g st) (k : Pure w w') : Rf w' g st := ⟨k.blk h.1 (fun hf => hf), h.2⟩
theorem Rf.lt {w : World} {g : Nat} {st : RS} (h : Rf w g st) : g < w.heap.size := h.1.lt

theorem f_fail (g : Nat) (x0 x1 x2 x3 : Value) (n a : Int) (w : World) (hb : Blk w g 88 #[x0, x1, x2, x3]) :
    Calls Tryz.prog 204 #[.pointer (some ⟨g, 0, none⟩), .int .i64 n, .int .i64 a] w fun e w' => e = .returned (.tuple #[]) ∧ Blk w' g 88 #[x0, x1, .int .i64 n, .int .i64 a] ∧ Only g w w' := by
  have c2 := hb.cell 2
  have c3 := hb.cell 3
  have f2 := hb.frozen 2
  have f3 := hb.frozen 3
  simp at c2 c3
  have HB := Lib.hid hb
  clear hb
  go_enter Tryz.func204, Tryz.ntmps204
  go_wp2_with fail
  go_end0
  refine ⟨rfl, ?_, ((Keep.refl (fun k => k = g) w).setCell (.inl rfl) _).setCell (.inl rfl) _⟩
  have h := (HB.out.set_ 2 (.int .i64 n)).set_ 3 (.int .i64 a)
  simpa using h

def TkPost (g : Nat) (x : ByteArray × RS) (w : World) (e : Ending) (w' : World) : Prop := e = .returned (.tuple #[.string x.1, .bool x.2.e.isNone]) ∧ Rf w' g x.2 ∧ Only g w w'

theorem f_take_off (g : Nat) (st : RS) (f : Flt) (hf : st.e = some f) (n : Int) (w : World) (hR : Rf w g st) :
    Calls Tryz.prog 202 #[.pointer (some ⟨g, 0, none⟩), .int .i64 n] w (TkPost g (st.raw n) w) := by
  have hV : st.raw n = (noBytes, st) := by unfold RS.raw; rw [hf]
  have HV := Lib.hid hV
  have HR := Lib.hid hR
  have HF := Lib.hid hf
  have c2 := hR.1.cell 2
  have hk := (hR.2.2 f hf).2.1
  rw [hf] at c2
  simp [fk] at c2
  have hk0 : ((f.k : Int) == 0) = false := by simp; omega
  clear hR hV hf hk
  go_enter Tryz.func202, Tryz.ntmps202
  go_wp2_with fail
  refine bodyPost_ret (v := .tuple #[.string noBytes, .bool false]) (by simp [results, Tryz.results202, go_sem, noBytes]) rfl ?_
  unfold TkPost
  rw [HV.out]
  exact ⟨by show _ = _; rw [show ((noBytes, st) : ByteArray × RS).2.e = some f from HF.out]; rfl, HR.out, Keep.refl _ _⟩

set_option maxHeartbeats 1000000 in
theorem f_take_bad (g : Nat) (st : RS) (hf : st.e = none) (n : Int) (w : World) (hR : Rf w g st) (hn : n < 0) :
    Calls Tryz.prog 202 #[.pointer (some ⟨g, 0, none⟩), .int .i64 n] w (TkPost g (st.raw n) w) := by
  have hV : st.raw n = (noBytes, st.fail 4 129 st.at_) := by unfold RS.raw; rw [hf]; simp only; rw [if_pos hn]
  have HV := Lib.hid hV
  have HR := Lib.hid hR
  have HE := Lib.hid (RS.raw_e hR.2.2 hR.2.1 n)
  have HO := Lib.hid (RS.raw_ok hR.2.1 n)
  have c1 := hR.1.cell 1
  have c2 := hR.1.cell 2
  rw [hf] at c2
  simp [fk] at c1 c2
  clear hR hV hf
  go_enter Tryz.func202, Tryz.ntmps202
  go_wp2_with fail
  refine (f_fail g _ _ _ _ _ _ _ HR.out.1).mono ?_; rintro e w1 ⟨rfl, h1, h2⟩
  have HB1 := Lib.hid h1
  have HP1 := Lib.hid h2
  clear h1 h2
  go_wp2_with fail
  refine bodyPost_ret (v := .tuple #[.string noBytes, .bool false]) (by simp [results, Tryz.results202, go_sem, noBytes]) rfl ?_
  unfold TkPost
  have hE := HE.out
  have hO := HO.out
  rw [HV.out] at hE hO ⊢
  exact ⟨rfl, ⟨HB1.out, hO, hE⟩, HP1.out⟩

set_option maxHeartbeats 1000000 in
theorem f_take_short (g : Nat) (st : RS) (hf : st.e = none) (n : Int) (w : World) (hR : Rf w g st) (hn : 0 ≤ n) (hn2 : (st.s.size : Int) - st.at_ < n) :
    Calls Tryz.prog 202 #[.pointer (some ⟨g, 0, none⟩), .int .i64 n] w (TkPost g (st.raw n) w) := by
  have hV : st.raw n = (noBytes, st.fail 1 129 st.s.size) := by unfold RS.raw; rw [hf]; simp only; rw [if_neg (by omega), if_pos hn2]
  have HV := Lib.hid hV
  have HE := Lib.hid (RS.raw_e hR.2.2 hR.2.1 n)
  have HO := Lib.hid (RS.raw_ok hR.2.1 n)
  have c0 := hR.1.cell 0
  have c1 := hR.1.cell 1
  have c2 := hR.1.cell 2
  have HB := Lib.hid hR.1
  have ha1 : (st.at_ : Int) ≤ st.s.size := by have := hR.2.1.1; omega
  have ha2 : (st.s.size : Int) ≤ 140737488351232 := by have := hR.2.1.2; omega
  have hlt := hR.1.lt
  rw [hf] at c2
  simp [fk] at c0 c1 c2
  have hn3 : ¬ n < 0 := by omega
  clear hR hV hf
  go_enter Tryz.func202, Tryz.ntmps202
  go_wp2_with fail
  go_quiet (fail)
  replace c0 := cell_drewN c0 nq
  replace c1 := cell_drewN c1 nq
  replace c2 := cell_drewN c2 nq
  replace hlt := lt_drewN hlt nq
  replace HB := blkH_drewN HB nq
  have HP := keepH_new w nq
  generalize w.drewN nq = w2 at *
  go_wp2_with fail
  refine (f_fail g _ _ _ _ _ _ _ HB.out).mono ?_; rintro e w1 ⟨rfl, h1, h2⟩
  have HB1 := Lib.hid h1
  have HP1 := Lib.hid h2
  clear h1 h2
  go_wp2_with fail
  refine bodyPost_ret (v := .tuple #[.string noBytes, .bool false]) (by simp [results, Tryz.results202, go_sem, noBytes]) rfl ?_
  unfold TkPost
  have hE := HE.out
  have hO := HO.out
  rw [HV.out] at hE hO ⊢
  exact ⟨rfl, ⟨HB1.out, hO, hE⟩, (Keep.of_pure HP.out).trans HP1.out⟩

set_option maxHeartbeats 1000000 in
theorem f_take_ok (g : Nat) (st : RS) (hf : st.e = none) (m : Nat) (w : World) (hR : Rf w g st) (hn2 : (m : Int) ≤ (st.s.size : Int) - st.at_) :
    Calls Tryz.prog 202 #[.pointer (some ⟨g, 0, none⟩), .int .i64 m] w (TkPost g (st.raw m) w) := by
  have hV : st.raw m = (st.s.extract st.at_ (st.at_ + m), { st with at_ := st.at_ + m }) := by unfold RS.raw; rw [hf]; simp only; rw [if_neg (by omega), if_neg (by omega)]; rfl
  have HV := Lib.hid hV
  have HF := Lib.hid hf
  have HE := Lib.hid (RS.raw_e hR.2.2 hR.2.1 m)
  have HO := Lib.hid (RS.raw_ok hR.2.1 m)
  have c0 := hR.1.cell 0
  have c1 := hR.1.cell 1
  have c2 := hR.1.cell 2
  have f1 := hR.1.frozen 1
  have HB := Lib.hid hR.1
  have ha1 : (st.at_ : Int) ≤ st.s.size := by have := hR.2.1.1; omega
  have ha2 : (st.s.size : Int) ≤ 140737488351232 := by have := hR.2.1.2; omega
  have hlt := hR.1.lt
  rw [hf] at c2
  simp [fk] at c0 c1 c2
  have hn3 : ¬ (m : Int) < 0 := by omega
  clear hR hV hf
  obtain ⟨s, a, er⟩ := st
  simp only at *
  go_enter Tryz.func202, Tryz.ntmps202
  go_wp2_with fail
  go_quiet (fail)
  replace c0 := cell_drewN c0 nq
  replace c1 := cell_drewN c1 nq
  replace c2 := cell_drewN c2 nq
  replace f1 := frz_drewN f1 nq
  replace hlt := lt_drewN hlt nq
  replace HB := blkH_drewN HB nq
  have HP := keepH_new w nq
  generalize w.drewN nq = w2 at *
  go_wp2_with fail
  have s1 : IntKind.i64.wrap ((a : Int) + (m : Int)) = (a : Int) + m := IntWalk.i64_in _ (by omega)
  have s2 : 0 ≤ (a : Int) + (m : Int) := by omega
  have s4 : (a : Int) + (m : Int) ≤ (s.size : Int) := by omega
  have s5 : (0 : Int) ≤ (m : Int) := by omega
  have s6 : a + m ≤ s.size := by omega
  have s7 : (a : Int) ≤ (a : Int) + (m : Int) := by omega
  have s3 : ((a : Int) + (m : Int)).toNat = a + m := by omega
  go_quiet (fail)
  clear s1 s2 s3 s4 s5 s6 s7
  replace c0 := cell_drewN c0 nq
  replace c1 := cell_drewN c1 nq
  replace c2 := cell_drewN c2 nq
  replace f1 := frz_drewN f1 nq
  replace hlt := lt_drewN hlt nq
  replace HB := blkH_drewN HB nq
  replace HP := keepH_drewN HP nq
  generalize w2.drewN nq = w3 at *
  go_wp2_with fail
  refine bodyPost_ret (v := .tuple #[.string (s.extract a (a + m)), .bool true]) (by simp [results, Tryz.results202, go_sem]) rfl ?_
  unfold TkPost
  have hE := HE.out
  have hO := HO.out
  rw [HV.out] at hE hO ⊢
  refine ⟨by rw [show ((s.extract a (a + m), ({ s := s, at_ := a + m, e := er } : RS)) : ByteArray × RS).2.e = none from HF.out]; rfl, ⟨?_, hO, hE⟩, (Keep.of_pure HP.out).trans ((Keep.refl (fun k => k = g) w3).setCell (.inl rfl) _)⟩
  have h := HB.out.set_ 1 (.int .i64 ((a : Int) + m))
  simpa using h

theorem f_take (g : Nat) (st : RS) (n : Int) (w : World) (hR : Rf w g st) :
    Calls Tryz.prog 202 #[.pointer (some ⟨g, 0, none⟩), .int .i64 n] w (TkPost g (st.raw n) w) := by
  cases he : st.e with
  | some f => exact f_take_off g st f he n w hR
  | none =>
    by_cases h1 : n < 0
    · exact f_take_bad g st he n w hR h1
    · by_cases h2 : (st.s.size : Int) - st.at_ < n
      · exact f_take_short g st he n w hR (by omega) h2
      · obtain ⟨m, rfl⟩ := Int.eq_ofNat_of_zero_le (show 0 ≤ n by omega)
        exact f_take_ok g st he m w hR (by omega)
end Go.Proofs.YthokkjdolcfhcaaGreatDoor

set_option linter.unusedVariables false
namespace Go.Proofs.YthokkjdolcfhcaaGreatDoor
open Go.RowKit

theorem raw_err {st : RS} {n : Int} {f : Flt} (h : (st.raw n).2.e = some f) : (st.raw n).1 = noBytes := by
  unfold RS.raw at h ⊢
  cases he : st.e with
  | some f' => rfl
  | none =>
    rw [he] at h
    simp only at h ⊢
    split
    · rfl
    · split
      · rfl
      · rename_i h1 h2
        rw [if_neg h1, if_neg h2] at h
        simp at h

set_option maxHeartbeats 1000000 in
theorem f_number (g : Nat) (st : RS) (many : Nat) (w : World) (hR : Rf w g st) (hm : many ≤ 4) :
    Calls Tryz.prog 141 #[.pointer (some ⟨g, 0, none⟩), .int .i64 many] w fun e w' => e = .returned (.int .i64 (st.num many).1) ∧ Rf w' g (st.num many).2 ∧ Only g w w' := by
  have HR := Lib.hid hR
  clear hR
  go_enter Tryz.func141, Tryz.ntmps141
  go_wp2_with fail
  refine (f_take g st _ w HR.out).mono ?_
  rintro e w1 ⟨rfl, h1, h2⟩
  have HR1 := Lib.hid h1
  have HP := Lib.hid h2
  clear h1 h2
  have hs : (st.raw many).1.size ≤ 4 := Nat.le_trans (RS.raw_size st many) hm
  have HF : Hid ((st.num many).1 = be (st.raw many).1.data.toList) := rfl
  have HOK : Hid (∀ k, k < (st.raw many).1.size → (st.raw many).2.e.isNone = true) := fun k hk => by
    cases he : (st.raw many).2.e with
    | none => rfl
    | some f => rw [raw_err he] at hk; exact absurd hk (Nat.not_lt_zero _)
  have HR2 : Hid (Rf w1 g (st.num many).2) := HR1.out
  generalize (st.raw many).1 = s at *
  generalize (st.raw many).2.e.isNone = ok at *
  go_wp2_with fail
  go_loop [7, 8] (fun n i => ∃ k : Nat, k ≤ s.size ∧ i = .int .i64 k ∧ n = .int .i64 (be (s.data.toList.take k) : Nat)) (fun _ i => s.size - (intOf i).toNat)
  case atStart => exact ⟨0, Nat.zero_le _, rfl, by simp [be]⟩
  case round =>
    obtain ⟨k, hk, rfl, rfl⟩ := hrel
    have hl := be_lt (s.data.toList.take k)
    have hl2 : be (s.data.toList.take k) < 4294967296 := by
      have h1 : (s.data.toList.take k).length ≤ 4 := by simp; omega
      have h2 : 256 ^ (s.data.toList.take k).length ≤ 256 ^ 4 := Nat.pow_le_pow_right (by omega) h1
      omega
    clear hl
    by_cases hlt : k < s.size
    · have hok := HOK.out k hlt
      have hix := run_index_at (P := Tryz.prog) 9 s .i64 k k rfl hlt Tryz.underlying9
      have hx : (s.data.toList.getD k 0).toNat < 256 := UInt8.toNat_lt _
      have HS : Hid (be (s.data.toList.take (k + 1)) = be (s.data.toList.take k) * 256 + (s.data.toList.getD k 0).toNat) := by
        rw [← be_snoc]
        congr 1
        rw [List.take_succ_eq_append_getElem (by simpa using hlt)]
        simp [List.getD, hlt]
      generalize (s.data.toList.getD k 0).toNat = x at *
      generalize be (s.data.toList.take k) = n at *
      go_wp2_with fail
      go_round
      case rel => exact ⟨k + 1, by omega, by go_num, by rw [HS.out]; go_num⟩
      case measure => simp [intOf]; omega
    · obtain rfl : k = s.size := by omega
      clear hlt
      go_wp2_with fail
      go_ret
      refine ⟨?_, HR2.out, HP.out⟩
      rw [HF.out]
      exact ret_int (by rw [List.take_of_length_le (by simp)])

theorem f_number' (g : Nat) (st : RS) (many : Nat) (m : Int) (he : m = (many : Int)) (w : World) (hR : Rf w g st) (hm : many ≤ 4) :
    Calls Tryz.prog 141 #[.pointer (some ⟨g, 0, none⟩), .int .i64 m] w fun e w' => e = .returned (.int .i64 (st.num many).1) ∧ Rf w' g (st.num many).2 ∧ Only g w w' := by
  subst he
  exact f_number g st many w hR hm
theorem f_raw (g : Nat) (st : RS) (n : Int) (w : World) (hR : Rf w g st) :
    Calls Tryz.prog 142 #[.pointer (some ⟨g, 0, none⟩), .int .i64 n] w fun e w' => e = .returned (.string (st.raw n).1) ∧ Rf w' g (st.raw n).2 ∧ Only g w w' := by
  have HC := Lib.hid (f_take g st n w hR)
  clear hR
  go_enter Tryz.func142, Tryz.ntmps142
  go_wp2_with fail
  refine HC.out.mono ?_
  rintro e w1 ⟨rfl, h1, h2⟩
  have HR1 := Lib.hid h1
  have HP := Lib.hid h2
  clear h1 h2
  go_wp2_with fail
  go_ret
  exact ⟨rfl, HR1.out, HP.out⟩
theorem f_u8 (g : Nat) (st : RS) (w : World) (hR : Rf w g st) :
    Calls Tryz.prog 69 #[.pointer (some ⟨g, 0, none⟩)] w fun e w' => e = .returned (.int .i64 (st.num 1).1) ∧ Rf w' g (st.num 1).2 ∧ Only g w w' := by
  have HC := Lib.hid (f_number' g st 1 1 rfl w hR (by omega))
  clear hR
  go_enter Tryz.func69, Tryz.ntmps69
  go_wp2_with fail
  refine HC.out.mono ?_
  rintro e w1 ⟨rfl, h1, h2⟩
  have HR1 := Lib.hid h1
  have HP := Lib.hid h2
  clear h1 h2
  go_wp2_with fail
  go_ret
  exact ⟨rfl, HR1.out, HP.out⟩
theorem f_u16 (g : Nat) (st : RS) (w : World) (hR : Rf w g st) :
    Calls Tryz.prog 143 #[.pointer (some ⟨g, 0, none⟩)] w fun e w' => e = .returned (.int .i64 (st.num 2).1) ∧ Rf w' g (st.num 2).2 ∧ Only g w w' := by
  have HC := Lib.hid (f_number' g st 2 2 rfl w hR (by omega))
  clear hR
  go_enter Tryz.func143, Tryz.ntmps143
  go_wp2_with fail
  refine HC.out.mono ?_
  rintro e w1 ⟨rfl, h1, h2⟩
  have HR1 := Lib.hid h1
  have HP := Lib.hid h2
  clear h1 h2
  go_wp2_with fail
  go_ret
  exact ⟨rfl, HR1.out, HP.out⟩
theorem f_u32 (g : Nat) (st : RS) (w : World) (hR : Rf w g st) :
    Calls Tryz.prog 71 #[.pointer (some ⟨g, 0, none⟩)] w fun e w' => e = .returned (.int .i64 (st.num 4).1) ∧ Rf w' g (st.num 4).2 ∧ Only g w w' := by
  have HC := Lib.hid (f_number' g st 4 4 rfl w hR (by omega))
  clear hR
  go_enter Tryz.func71, Tryz.ntmps71
  go_wp2_with fail
  refine HC.out.mono ?_
  rintro e w1 ⟨rfl, h1, h2⟩
  have HR1 := Lib.hid h1
  have HP := Lib.hid h2
  clear h1 h2
  go_wp2_with fail
  go_ret
  exact ⟨rfl, HR1.out, HP.out⟩

theorem fk_zero {st : RS} (h : st.OkE) : ((fk st.e : Int) == 0) = st.e.isNone := by
  cases he : st.e with
  | none => rfl
  | some f =>
    have := (h f he).2.1
    simp [fk]
    omega
theorem fk_eq {st : RS} (h : st.OkE) : (∃ f, st.e = some f ∧ ((f.k : Int) == 0) = false ∧ fk st.e = f.k) ∨ (st.e = none ∧ fk st.e = 0) := by
  cases he : st.e with
  | none => exact .inr ⟨rfl, rfl⟩
  | some f =>
    have := (h f he).2.1
    exact .inl ⟨f, rfl, by simp; omega, rfl⟩

set_option maxHeartbeats 1000000 in
theorem f_bin (g : Nat) (st : RS) (w : World) (hR : Rf w g st) :
    Calls Tryz.prog 70 #[.pointer (some ⟨g, 0, none⟩)] w fun e w' => e = .returned (.string st.bin.1) ∧ Rf w' g st.bin.2 ∧ Only g w w' := by
  have HR := Lib.hid hR
  have c1 := hR.1.cell 1
  simp at c1
  have HA : Hid (st.at_ ≤ ((st.num 2).2.raw (st.num 2).1).2.s.size) := by
    rw [RS.raw_s, RS.num_s]
    exact hR.2.1.1
  have HB1 : Hid (st.bin.1 = ((st.num 2).2.raw (st.num 2).1).1) := rfl
  have HB2 : Hid (st.bin.2 = ((st.num 2).2.raw (st.num 2).1).2.back st.at_) := rfl
  have HE := Lib.hid (RS.bin_e hR.2.2 hR.2.1)
  have HO := Lib.hid (RS.bin_ok hR.2.1)
  clear hR
  go_enter Tryz.func70, Tryz.ntmps70
  go_wp2_with fail
  refine (f_u16 g st w HR.out).mono ?_; rintro e w1 ⟨rfl, h1, h2⟩
  have HR1 := Lib.hid h1
  have HP1 := Lib.hid h2
  clear h1 h2
  go_wp2_with fail
  refine (f_raw g _ _ w1 HR1.out).mono ?_; rintro e w2 ⟨rfl, h1, h2⟩
  have HR2 := Lib.hid h1
  have HP2 := Lib.hid (HP1.out.trans h2)
  clear h1 h2
  generalize ((st.num 2).2.raw (st.num 2).1) = x at *
  obtain ⟨s, sx⟩ := x
  simp only at *
  have d2 := HR2.out.1.cell 2
  have d1 := HR2.out.1.cell 1
  have f1 := HR2.out.1.frozen 1
  simp at d1 d2
  rcases fk_eq HR2.out.2.2 with ⟨f, hf, hk, hfk⟩ | ⟨hf, hfk⟩
  · rw [hfk] at d2
    have HV : Hid (st.bin.2 = ⟨sx.s, st.at_, sx.e⟩) := by show _ = _; rw [HB2.out]; unfold RS.back; rw [hf]; rfl
    clear hf hfk
    go_wp2_with fail
    go_ret
    rw [HB1.out]
    have hE := HE.out
    have hO := HO.out
    rw [HV.out] at hE hO ⊢
    refine ⟨rfl, ⟨?_, hO, hE⟩, HP2.out.setCell (.inl rfl) _⟩
    have h := HR2.out.1.set_ 1 (.int .i64 (st.at_ : Int))
    simpa using h
  · rw [hfk] at d2
    have HV : Hid (st.bin.2 = sx) := by show _ = _; rw [HB2.out]; unfold RS.back; rw [hf]; rfl
    clear hf hfk
    go_wp2_with fail
    go_ret
    rw [HB1.out, HV.out]
    exact ⟨rfl, HR2.out, HP2.out⟩
end Go.Proofs.YthokkjdolcfhcaaGreatDoor

set_option linter.unusedVariables false
namespace Go.Proofs.YthokkjdolcfhcaaGreatDoor
open Go.RowKit

theorem extract_all (s : ByteArray) (a : Nat) : s.extract a s.size = s.extract a s.size := rfl

set_option maxRecDepth 100000 in
set_option maxHeartbeats 2000000 in
theorem f_var (g : Nat) (st : RS) (w : World) (hR : Rf w g st) :
    Calls Tryz.prog 144 #[.pointer (some ⟨g, 0, none⟩)] w fun e w' => e = .returned (.int .i64 st.var.1) ∧ Rf w' g st.var.2 ∧ Only g w w' := by
  have HR := Lib.hid hR
  have HE := Lib.hid (RS.var_e hR.2.2 hR.2.1)
  have HO := Lib.hid (RS.var_ok hR.2.1)
  have c0 := hR.1.cell 0
  have c1 := hR.1.cell 1
  have c2 := hR.1.cell 2
  have f1 := hR.1.frozen 1
  have HB := Lib.hid hR.1
  have ha1 : (st.at_ : Int) ≤ st.s.size := by have := hR.2.1.1; omega
  have ha2 : (st.s.size : Int) ≤ 140737488351232 := by have := hR.2.1.2; omega
  have hlt := hR.1.lt
  simp at c0 c1 c2
  rcases fk_eq hR.2.2 with ⟨f, hf, hk, hfk⟩ | ⟨hf, hfk⟩
  · rw [hfk] at c2
    have HV : Hid (st.var = (0, st)) := by show _ = _; unfold RS.var; rw [hf]
    clear hf hfk hR
    go_enter Tryz.func144, Tryz.ntmps144
    go_wp2_with fail
    go_ret
    rw [HV.out]
    exact ⟨rfl, HR.out, Keep.refl _ _⟩
  · rw [hfk] at c2
    have HC := Lib.hid (fun w => q_take (s := st.s.extract st.at_ st.s.size) (w := w) (by simp; omega))
    have HN := Lib.hid hf
    cases hv : vtake (st.s.extract st.at_ st.s.size) with
    | error f =>
      have HV : Hid (st.var = (0, { st with e := some (deeperS f st.at_) })) := by show _ = _; unfold RS.var; rw [hf]; simp only; rw [hv]
      obtain ⟨e1, e2, e3, e4, e5⟩ := vtk_err _ _ _ _ hv
      have HD := Lib.hid (deeper_near (n := st.at_) e1 ⟨e2, e3⟩ e4 (by omega) (by omega)).2
      have HC2 : Hid (∀ w, Calls Tryz.prog 203 #[.string (st.s.extract st.at_ st.s.size)] w fun e w' => e = .returned (.tuple #[.int .i64 0, .int .i64 0, .int .i64 f.k, .int .i64 f.a]) ∧ w' = w) := fun w => (HC.out w).mono fun e w' h => by
        unfold TakePost at h
        rw [hv] at h
        exact ⟨h.2, h.1.symm⟩
      have hk0 : ((f.k : Int) == 0) = false := by simp; omega
      obtain ⟨s, a, er⟩ := st
      simp only at *
      clear hfk hf HC hR hv
      have s1 : (0 : Int) ≤ (a : Int) := by omega
      have s3 : a ≤ s.size := by omega
      go_enter Tryz.func144, Tryz.ntmps144
      go_wp2_with fail
      go_quiet ((go_at_call 203; exact Calls.quiet_of_same (HC2.out _)))
      replace c0 := cell_drewN c0 nq
      replace c1 := cell_drewN c1 nq
      replace c2 := cell_drewN c2 nq
      replace f1 := frz_drewN f1 nq
      replace hlt := lt_drewN hlt nq
      replace HB := blkH_drewN HB nq
      have HP := keepH_new w nq
      generalize w.drewN nq = w2 at *
      have hadd : (a : Int) + f.a ≤ 281474976710656 := by omega
      go_wp2_with fail
      refine (f_fail g _ _ _ _ _ _ _ HB.out).mono ?_; rintro e w1 ⟨rfl, h1, h2⟩
      have HB1 := Lib.hid h1
      have HP1 := Lib.hid h2
      clear h1 h2
      go_wp2_with fail
      go_ret
      have hE := HE.out
      have hO := HO.out
      rw [HV.out] at hE hO ⊢
      refine ⟨rfl, ⟨?_, hO, hE⟩, (Keep.of_pure HP.out).trans HP1.out⟩
      have h := HB1.out
      have hd := HD.out
      simp only [fk, fa]
      rw [hd, Int.add_comm]
      exact h
    | ok x =>
      obtain ⟨n, k⟩ := x
      have HV : Hid (st.var = (n, { st with at_ := st.at_ + k })) := by show _ = _; unfold RS.var; rw [hf]; simp only; rw [hv]
      have hb := vtk_bound _ _ _ _ _ (by simp) hv
      have hl : (st.s.extract st.at_ st.s.size).data.toList.length ≤ st.s.size - st.at_ := by simp
      have hkk : k ≤ 4 ∧ st.at_ + k ≤ st.s.size := by omega
      have HC2 : Hid (∀ w, Calls Tryz.prog 203 #[.string (st.s.extract st.at_ st.s.size)] w fun e w' => e = .returned (.tuple #[.int .i64 n, .int .i64 k, .int .i64 0, .int .i64 0]) ∧ w' = w) := fun w => (HC.out w).mono fun e w' h => by
        unfold TakePost at h
        rw [hv] at h
        exact ⟨h.2, h.1.symm⟩
      obtain ⟨s, a, er⟩ := st
      simp only at *
      clear hfk hf HC hR hv hl hb
      have s1 : (0 : Int) ≤ (a : Int) := by omega
      have s3 : a ≤ s.size := by omega
      go_enter Tryz.func144, Tryz.ntmps144
      go_wp2_with fail
      go_quiet ((go_at_call 203; exact Calls.quiet_of_same (HC2.out _)))
      replace c0 := cell_drewN c0 nq
      replace c1 := cell_drewN c1 nq
      replace c2 := cell_drewN c2 nq
      replace f1 := frz_drewN f1 nq
      replace hlt := lt_drewN hlt nq
      replace HB := blkH_drewN HB nq
      have HP := keepH_new w nq
      generalize w.drewN nq = w2 at *
      go_wp2_with fail
      go_ret
      have hE := HE.out
      have hO := HO.out
      rw [HV.out] at hE hO ⊢
      refine ⟨rfl, ⟨?_, hO, hE⟩, (Keep.of_pure HP.out).trans ((Keep.refl (fun k => k = g) w2).setCell (.inl rfl) _)⟩
      have h := HB.out.set_ 1 (.int .i64 ((a : Int) + k))
      simpa using h
end Go.Proofs.YthokkjdolcfhcaaGreatDoor

set_option linter.unusedVariables false
namespace Go.Proofs.YthokkjdolcfhcaaGreatDoor
open Go.RowKit

set_option maxHeartbeats 1000000 in
theorem f_text (g : Nat) (st : RS) (w : World) (hR : Rf w g st) :
    Calls Tryz.prog 206 #[.pointer (some ⟨g, 0, none⟩)] w fun e w' => e = .returned (.string st.text.1) ∧ Rf w' g st.text.2 ∧ Only g w w' := by
  have HR := Lib.hid hR
  have HE := Lib.hid (RS.text_e hR.2.2 hR.2.1)
  have HO := Lib.hid (RS.text_ok hR.2.1)
  have c1 := hR.1.cell 1
  simp at c1
  have ha : (st.at_ : Int) ≤ 140737488351232 := by have := hR.2.1.1; have := hR.2.1.2; omega
  have hbs : st.bin.1.size ≤ 140737488351232 := by
    have h1 := RS.raw_le (st.num 2).2 (st.num 2).1
    rw [RS.num_s] at h1
    have := hR.2.1.2
    show ((st.num 2).2.raw (st.num 2).1).1.size ≤ _
    omega
  have HC := Lib.hid (fun w => q_check st.bin.1 w hbs)
  have HS : Hid (st.bin.2.s = st.s) := RS.bin_s st
  clear hR hbs
  go_enter Tryz.func206, Tryz.ntmps206
  go_wp2_with fail
  refine (f_bin g st w HR.out).mono ?_; rintro e w1 ⟨rfl, h1, h2⟩
  have HR1 := Lib.hid h1
  have HP1 := Lib.hid h2
  clear h1 h2
  have d2 := HR1.out.1.cell 2
  have d1 := HR1.out.1.cell 1
  simp at d1 d2
  rcases fk_eq HR1.out.2.2 with ⟨f, hf, hk, hfk⟩ | ⟨hf, hfk⟩
  · rw [hfk] at d2
    have HT : Hid (st.text = (noBytes, st.bin.2)) := by show _ = _; unfold RS.text; rw [hf]
    clear hf hfk
    go_wp2_with fail
    go_ret
    rw [HT.out]
    exact ⟨rfl, HR1.out, HP1.out⟩
  · rw [hfk] at d2
    have HBE := Lib.hid hf
    clear hf hfk
    go_wp2_with fail
    refine (HC.out _).mono ?_; rintro e w2 ⟨rfl, hP⟩
    have HR2 := Lib.hid (HR1.out.pure hP)
    have HP2 := Lib.hid (HP1.out.trans (Keep.of_pure hP))
    clear hP d1 d2
    cases hu : uCheck st.bin.1 with
    | none =>
      have HT : Hid (st.text = st.bin) := by show _ = _; unfold RS.text; rw [HBE.out]; simp only; rw [hu]
      clear hu
      simp only [fk, fa]
      go_wp2_with fail
      go_ret
      rw [HT.out]
      exact ⟨rfl, HR2.out, HP2.out⟩
    | some f =>
      have HT : Hid (st.text = (noBytes, ⟨st.s, st.at_, some (deeperS f (st.at_ + 2))⟩)) := by show _ = _; unfold RS.text; rw [HBE.out]; simp only; rw [hu]
      obtain ⟨e1, e2, e3, e4, e5⟩ := uCheck_err hu
      have HD := Lib.hid (deeper_near (n := st.at_ + 2) e1 ⟨e2, e3⟩ e4 e5 (by omega)).2
      have hk0 : ((f.k : Int) == 0) = false := by simp; omega
      have b1 := HR2.out.1.cell 1
      have fb1 := HR2.out.1.frozen 1
      simp at b1
      have HB3 : Hid (Blk (w2.setCell ⟨g, 1, none⟩ (.int .i64 st.at_)) g 88 #[.string st.bin.2.s, .int .i64 st.at_, .int .i64 (fk st.bin.2.e), .int .i64 (fa st.bin.2.e)]) := by
        have h := HR2.out.1.set_ 1 (.int .i64 (st.at_ : Int))
        show Blk _ _ _ _
        simpa using h
      clear hu
      simp only [fk, fa]
      go_wp2_with fail
      refine (f_fail g _ _ _ _ _ _ _ HB3.out).mono ?_; rintro e w3 ⟨rfl, h1, h2⟩
      have HB4 := Lib.hid h1
      have HP4 := Lib.hid ((HP2.out.setCell (p := ⟨g, 1, none⟩) (.inl rfl) (.int .i64 st.at_)).trans h2)
      clear h1 h2
      go_wp2_with fail
      go_ret
      have hE := HE.out
      have hO := HO.out
      rw [HT.out] at hE hO ⊢
      refine ⟨rfl, ⟨?_, hO, hE⟩, HP4.out⟩
      have h := HB4.out
      have hd := HD.out
      rw [HS.out] at h
      simp only [fk, fa]
      simp only [Int.natCast_add, Int.cast_ofNat_Int] at hd
      rw [show (deeperS f ((st.at_ : Int) + 2)).a = (st.at_ : Int) + 2 + f.a from by rw [hd]; omega]
      exact h

set_option maxRecDepth 100000 in
set_option maxHeartbeats 2000000 in
theorem f_rest (g : Nat) (st : RS) (w : World) (hR : Rf w g st) :
    Calls Tryz.prog 236 #[.pointer (some ⟨g, 0, none⟩)] w fun e w' => e = .returned (.string st.rest.1) ∧ Rf w' g st.rest.2 ∧ Only g w w' := by
  have HR := Lib.hid hR
  have c0 := hR.1.cell 0
  have c1 := hR.1.cell 1
  simp at c0 c1
  have hlt := hR.1.lt
  have ha1 : (st.at_ : Int) ≤ st.s.size := by have := hR.2.1.1; omega
  have ha2 : (st.s.size : Int) ≤ 140737488351232 := by have := hR.2.1.2; omega
  have HL : Hid (st.rest = st.raw ((st.s.size : Int) - (st.at_ : Int))) := by
    show _ = _
    unfold RS.rest
    congr 1
    unfold RS.left
    omega
  have s1 : IntKind.i64.wrap ((st.s.size : Int) - (st.at_ : Int)) = (st.s.size : Int) - (st.at_ : Int) := IntWalk.i64_in _ (by omega)
  clear hR
  go_enter Tryz.func236, Tryz.ntmps236
  go_upto_region 1 with fail
  go_cut [2] (fun v wx => v = .string st.rest.1 ∧ Hid (Rf wx g st.rest.2 ∧ Only g w wx))
  case first =>
    go_region_with (go_at_call 142; refine (f_raw g st ((st.s.size : Int) - (st.at_ : Int)) _ (by exact HR.out.pure (Keep.refl _ w).drew)).mono ?_; rintro e w1 ⟨rfl, h1, h2⟩; have HR1 := Lib.hid h1; have HP1 := Lib.hid h2; clear h1 h2)
    all_goals
      go_wp2_with fail
      go_meet
      rw [HL.out]
      exact ⟨rfl, HR1.out, (Keep.of_pure (Keep.refl _ w).drew).trans HP1.out⟩
  case rest =>
    obtain ⟨rfl, HX⟩ := hcut
    go_wp2_with fail
    go_ret
    exact ⟨rfl, HX.out⟩

theorem done_eq (st : RS) : (st.e = none ∧ st.at_ < st.s.size ∧ st.done = some ⟨2, 129, st.at_⟩) ∨ ((st.e ≠ none ∨ ¬ st.at_ < st.s.size) ∧ st.done = st.e) := by
  unfold RS.done
  cases he : st.e with
  | some f => exact .inr ⟨.inl (by simp), rfl⟩
  | none =>
    by_cases h : st.at_ < st.s.size
    · exact .inl ⟨rfl, h, by simp [h]⟩
    · exact .inr ⟨.inr h, by simp [h]⟩

set_option maxHeartbeats 1000000 in
theorem f_done (g : Nat) (st : RS) (w : World) (hR : Rf w g st) :
    Calls Tryz.prog 73 #[.pointer (some ⟨g, 0, none⟩)] w fun e w' => e = .returned (.tuple #[.int .i64 (fk st.done), .int .i64 (fa st.done)]) ∧ Pure w w' := by
  have c0 := hR.1.cell 0
  have c1 := hR.1.cell 1
  have c2 := hR.1.cell 2
  have c3 := hR.1.cell 3
  simp at c0 c1 c2 c3
  have hlt := hR.1.lt
  have HB := Lib.hid hR.1
  rcases fk_eq hR.2.2 with ⟨f, hf, hk, hfk⟩ | ⟨hf, hfk⟩
  · have HD : Hid (fk st.done = f.k ∧ fa st.done = fa st.e) := by
      rcases done_eq st with ⟨h, _⟩ | ⟨_, h⟩
      · rw [hf] at h; cases h
      · rw [h, hf]; exact ⟨rfl, rfl⟩
    rw [hfk] at c2
    clear hf hfk hR
    generalize fa st.e = av at *
    go_enter Tryz.func73, Tryz.ntmps73
    go_wp2_with fail
    go_quiet (fail)
    replace c0 := cell_drewN c0 nq
    replace c1 := cell_drewN c1 nq
    replace c2 := cell_drewN c2 nq
    replace c3 := cell_drewN c3 nq
    replace hlt := lt_drewN hlt nq
    have HP := keepH_new w nq
    generalize w.drewN nq = w2 at *
    go_wp2_with fail
    go_quiet (fail)
    replace c0 := cell_drewN c0 nq
    replace c1 := cell_drewN c1 nq
    replace c2 := cell_drewN c2 nq
    replace c3 := cell_drewN c3 nq
    replace hlt := lt_drewN hlt nq
    replace HP := keepH_drewN HP nq
    generalize w2.drewN nq = w3 at *
    go_wp2_with fail
    refine bodyPost_ret (v := .tuple #[.int .i64 f.k, .int .i64 av]) (by simp [results, Tryz.results73, go_sem]) rfl ?_
    rw [HD.out.1, HD.out.2]
    exact ⟨rfl, HP.out⟩
  · rw [hfk] at c2
    by_cases hl : st.at_ < st.s.size
    · have HD : Hid (fk st.done = 2 ∧ fa st.done = st.at_) := by
        rcases done_eq st with ⟨_, _, h⟩ | ⟨h, _⟩
        · rw [h]; exact ⟨rfl, rfl⟩
        · rcases h with h | h
          · exact absurd hf h
          · exact absurd hl h
      have hl2 : (st.at_ : Int) < (st.s.size : Int) := by omega
      clear hf hfk hR hl
      go_enter Tryz.func73, Tryz.ntmps73
      go_wp2_with fail
      go_quiet (fail)
      replace c0 := cell_drewN c0 nq
      replace c1 := cell_drewN c1 nq
      replace c2 := cell_drewN c2 nq
      replace c3 := cell_drewN c3 nq
      replace hlt := lt_drewN hlt nq
      have HP := keepH_new w nq
      generalize w.drewN nq = w2 at *
      go_wp2_with fail
      go_quiet (fail)
      replace c0 := cell_drewN c0 nq
      replace c1 := cell_drewN c1 nq
      replace c2 := cell_drewN c2 nq
      replace c3 := cell_drewN c3 nq
      replace hlt := lt_drewN hlt nq
      replace HP := keepH_drewN HP nq
      generalize w2.drewN nq = w3 at *
      go_wp2_with fail
      refine bodyPost_ret (v := .tuple #[.int .i64 2, .int .i64 st.at_]) (by simp [results, Tryz.results73, go_sem]) rfl ?_
      rw [HD.out.1, HD.out.2]
      exact ⟨rfl, HP.out⟩
    · have HD : Hid (fk st.done = 0 ∧ fa st.done = fa st.e) := by
        rcases done_eq st with ⟨_, h, _⟩ | ⟨_, h⟩
        · exact absurd h hl
        · rw [h, hf]; exact ⟨rfl, rfl⟩
      have hl2 : ¬ (st.at_ : Int) < (st.s.size : Int) := by omega
      clear hf hfk hR hl
      generalize fa st.e = av at *
      go_enter Tryz.func73, Tryz.ntmps73
      go_wp2_with fail
      go_quiet (fail)
      replace c0 := cell_drewN c0 nq
      replace c1 := cell_drewN c1 nq
      replace c2 := cell_drewN c2 nq
      replace c3 := cell_drewN c3 nq
      replace hlt := lt_drewN hlt nq
      have HP := keepH_new w nq
      generalize w.drewN nq = w2 at *
      go_wp2_with fail
      go_quiet (fail)
      replace c0 := cell_drewN c0 nq
      replace c1 := cell_drewN c1 nq
      replace c2 := cell_drewN c2 nq
      replace c3 := cell_drewN c3 nq
      replace hlt := lt_drewN hlt nq
      replace HP := keepH_drewN HP nq
      generalize w2.drewN nq = w3 at *
      go_wp2_with fail
      refine bodyPost_ret (v := .tuple #[.int .i64 0, .int .i64 av]) (by simp [results, Tryz.results73, go_sem]) rfl ?_
      rw [HD.out.1, HD.out.2]
      exact ⟨rfl, HP.out⟩
end Go.Proofs.YthokkjdolcfhcaaGreatDoor

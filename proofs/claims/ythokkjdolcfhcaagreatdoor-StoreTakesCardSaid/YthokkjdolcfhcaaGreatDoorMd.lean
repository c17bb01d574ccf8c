/- Package utf by contract. Package utf: walk, Letters, Check by contract. The reader of package field: variable byte integers, texts. -/
import Derived.Test.YthokkjdolcfhcaaGreatDoorMb
import Derived.Test.YthokkjdolcfhcaaGreatDoorMc
import Derived.Test.YthokkjdolcfhcaaGreatDoorMa
import Derived.Lib.Strings

set_option linter.unusedVariables false
namespace Go.Proofs.YthokkjdolcfhcaaGreatDoor
open Go.RowKit

theorem ofInt_u8 (a : Nat) (ha : a < 256) : (BitVec.ofInt 8 (a : Int)).toNat = a := by
  rw [BitVec.ofInt_natCast, BitVec.toNat_ofNat]; exact Nat.mod_eq_of_lt (by omega)
theorem u8_and_nat (a b : Nat) (ha : a < 256) (hb : b < 256) : bits .and .u8 (a : Int) (b : Int) = ((a &&& b : Nat) : Int) := by
  have hx : a &&& b < 2 ^ 8 := Nat.and_lt_two_pow _ (by omega)
  show IntKind.u8.wrap ((BitVec.ofInt 8 (a : Int) &&& BitVec.ofInt 8 (b : Int)).toNat : Int) = _
  rw [BitVec.toNat_and, ofInt_u8 a ha, ofInt_u8 b hb, IntKind.wrap_u8]
  omega
theorem u8_and_low (a k m : Nat) (ha : a < 256) (hm : m = 2 ^ k - 1) (hk : m < 256) : bits .and .u8 (a : Int) (m : Int) = ((a % 2 ^ k : Nat) : Int) := by
  rw [u8_and_nat a m ha hk, hm, Nat.and_two_pow_sub_one_eq_mod]

set_option maxRecDepth 100000 in
theorem u_shape (x : Nat) (w : World) (hx : x < 256) :
    Calls Tryz.prog 256 #[.int .u8 x] w fun e w' => e = .returned (.tuple #[.int .i64 (uShape x).1, .int .i64 (uShape x).2.1, .int .i64 (uShape x).2.2]) ∧ w = w' := by
  by_cases hA : 1 ≤ x ∧ x < 128
  · have HS : Hid (uShape x = (0, x, 1)) := by unfold uShape; rw [if_pos hA]; rfl
    obtain ⟨h1, h2⟩ := hA
    go_enter Tryz.func256, Tryz.ntmps256
    go_wp2
    go_ret3
    rw [HS.out]; exact ⟨rfl, rfl⟩
  by_cases hB : 192 ≤ x ∧ x < 224
  · have HS : Hid (uShape x = (1, x % 32, 128)) := by unfold uShape; rw [if_neg hA, if_pos hB]; rfl
    obtain ⟨h1, h2⟩ := hB
    have hand : bits .and .u8 (x : Int) 31 = ((x % 32 : Nat) : Int) := u8_and_low x 5 31 hx rfl (by omega)
    have hy : x % 32 < 32 := Nat.mod_lt _ (by omega)
    generalize x % 32 = y at *
    clear hA
    go_enter Tryz.func256, Tryz.ntmps256
    go_wp2
    go_ret3
    rw [HS.out]; exact ⟨rfl, rfl⟩
  by_cases hC : 224 ≤ x ∧ x < 240
  · have HS : Hid (uShape x = (2, x % 16, 2048)) := by unfold uShape; rw [if_neg hA, if_neg hB, if_pos hC]; rfl
    obtain ⟨h1, h2⟩ := hC
    have hand : bits .and .u8 (x : Int) 15 = ((x % 16 : Nat) : Int) := u8_and_low x 4 15 hx rfl (by omega)
    have hy : x % 16 < 16 := Nat.mod_lt _ (by omega)
    generalize x % 16 = y at *
    clear hA hB
    go_enter Tryz.func256, Tryz.ntmps256
    go_wp2
    go_ret3
    rw [HS.out]; exact ⟨rfl, rfl⟩
  by_cases hD : 240 ≤ x ∧ x < 248
  · have HS : Hid (uShape x = (3, x % 8, 65536)) := by unfold uShape; rw [if_neg hA, if_neg hB, if_neg hC, if_pos hD]; rfl
    obtain ⟨h1, h2⟩ := hD
    have hand : bits .and .u8 (x : Int) 7 = ((x % 8 : Nat) : Int) := u8_and_low x 3 7 hx rfl (by omega)
    have hy : x % 8 < 8 := Nat.mod_lt _ (by omega)
    generalize x % 8 = y at *
    clear hA hB hC
    go_enter Tryz.func256, Tryz.ntmps256
    go_wp2
    go_ret3
    rw [HS.out]; exact ⟨rfl, rfl⟩
  have HS : Hid (uShape x = (0, 0, 1)) := by unfold uShape; rw [if_neg hA, if_neg hB, if_neg hC, if_neg hD]; rfl
  have h3 : x < 1 ∨ (128 ≤ x ∧ x < 192) ∨ 248 ≤ x := by omega
  clear hA hB hC hD
  rcases h3 with h | ⟨h1, h2⟩ | h
  all_goals
    go_enter Tryz.func256, Tryz.ntmps256
    go_wp2
    go_ret3
    rw [HS.out]; exact ⟨rfl, rfl⟩

theorem and_192 : ∀ c : Nat, c < 256 → c &&& 192 = c / 64 * 64 := by decide +kernel
theorem u8_and_192 (c : Nat) (hc : c < 256) : bits .and .u8 (c : Int) 192 = ((c / 64 * 64 : Nat) : Int) := by
  rw [← and_192 c hc]
  exact u8_and_nat c 192 hc (by omega)
theorem or_six (n x : Nat) (hn : n < 67108864) (hx : x < 64) : bits .or .i64 ((n : Int) * 64) (x : Int) = ((n * 64 + x : Nat) : Int) := by
  have h := i64_or_nat (n * 64) x (by omega) (by omega)
  rw [nat_or_low n x 6 hx] at h
  rw [← h]
  simp

/-- utf.first of bytes that are some. -/
def FirstPost (r : Nat) (w : World) (e : Ending) (w' : World) : Prop := e = .returned (.int .i64 r) ∧ Pure w w'

set_option maxRecDepth 100000 in
set_option maxHeartbeats 1000000 in
theorem u_first (s : ByteArray) (w : World) (hs : 0 < s.size) (hs2 : s.size ≤ 140737488351232) :
    Calls Tryz.prog 254 #[.string s] w (FirstPost (uFirst s.data.toList) w) := by
  have hix := run_index_at (P := Tryz.prog) 9 s .i64 0 0 rfl hs Tryz.underlying9
  have hx : (s.data.toList.getD 0 0).toNat < 256 := UInt8.toNat_lt _
  have HU : Hid (uFirst s.data.toList = if s.size - 1 < (uShape (s.data.toList.getD 0 0).toNat).1 then 0 else match uMore ((s.data.toList.drop 1).take (uShape (s.data.toList.getD 0 0).toNat).1) (uShape (s.data.toList.getD 0 0).toNat).2.1 with
      | none => 0
      | some n => if uBad n (uShape (s.data.toList.getD 0 0).toNat).2.2 then 0 else (uShape (s.data.toList.getD 0 0).toNat).1 + 1) := by
    show _ = _
    have h := drop_at s 0 hs
    rw [List.drop_zero] at h
    have hl : (s.data.toList.drop 1).length = s.size - 1 := by simp
    conv => lhs; rw [h]
    show (if (s.data.toList.drop 1).length < _ then _ else _) = _
    rw [hl]
    rfl
  generalize (s.data.toList.getD 0 0).toNat = x at *
  go_enter Tryz.func254, Tryz.ntmps254
  go_wp2_with fail
  refine (u_shape x w hx).mono ?_
  rintro e w' ⟨rfl, rfl⟩
  have h3 := uShape_le x
  have hn : (uShape x).2.1 < 256 := by unfold uShape; (repeat' split) <;> simp <;> omega
  clear hx hix
  generalize (uShape x).1 = f at *
  generalize (uShape x).2.1 = n at *
  generalize (uShape x).2.2 = least at *
  by_cases hl : s.size ≤ f
  · go_wp2_with fail
    go_ret
    exact ⟨by rw [HU.out, if_pos (by omega)]; rfl, Keep.refl _ _⟩
  · have hcv := fun W t => Lib.run_convert_string_bytes (P := Tryz.prog) W 9 99 5 t (u := .string) Tryz.underlying9 Tryz.underlying99 Tryz.underlying5
    have s1 : (1 : Int) ≤ (f : Int) + 1 := by omega
    have s2 : (f : Int) + 1 ≤ (s.size : Int) := by omega
    have s3 : ((f : Int) + 1).toNat = f + 1 := by omega
    have s4 : 0 ≤ (f : Int) + 1 := by omega
    have s5 : min (f + 1) s.size - 1 = f := by omega
    go_wp2_with fail
    have hll : ¬ s.size - 1 < f := by omega
    have HU2 : Hid (uFirst s.data.toList = match uMore ((s.data.toList.drop 1).take f) n with
      | none => 0
      | some n => if uBad n least then 0 else f + 1) := by rw [HU.out, if_neg hll]; rfl
    clear HU hll s1 s2 s3 s4 hcv
    have HT : Hid ((s.extract 1 (f + 1)).data.toList = (s.data.toList.drop 1).take f) := by
      show _ = _
      rw [Lib.extract_data]
      simp
    have hts : (s.extract 1 (f + 1)).size = f := by simp; omega
    clear s5 hl
    generalize s.extract 1 (f + 1) = t at *
    have HB := Lib.hid (bytes_pure w 5 t)
    have HCC := Lib.hid (fun j hj => Lib.bytesWorld_cell w 5 t j hj)
    have HTS := Lib.hid hts
    clear hts
    generalize w.heap.size = g1 at *
    generalize Lib.bytesWorld w 5 t = w2 at *
    generalize grownCap _ _ _ _ = cp at *
    go_loop [4, 25] (fun a i => ∃ k m : Nat, k ≤ f ∧ m < 256 * 64 ^ k ∧ i = .int .i64 k ∧ a = .int .i64 m ∧ Hid (uMore t.data.toList n = uMore (t.data.toList.drop k) m)) (fun _ i => f - (intOf i).toNat)
    case atStart => exact ⟨0, n, by omega, by omega, rfl, rfl, by simp [Hid]⟩
    case round =>
      obtain ⟨k, m, hk, hm, rfl, rfl, HM⟩ := hrel
      have hm2 : m < 67108864 := by
        have : 64 ^ k ≤ 64 ^ 3 := Nat.pow_le_pow_right (by omega) (by omega)
        omega
      have HMM := Lib.hid hm
      clear hm
      by_cases hlt : k < f
      · have hkt : k < t.size := by have := HTS.out; omega
        have hc := HCC.out k hkt
        have hx : (t.data.toList.getD k 0).toNat < 256 := UInt8.toNat_lt _
        have HS : Hid (uMore (t.data.toList.drop k) m = if (t.data.toList.getD k 0).toNat / 64 = 2 then uMore (t.data.toList.drop (k + 1)) (m * 64 + (t.data.toList.getD k 0).toNat % 64) else none) := by
          show _ = _
          rw [drop_at t k hkt, uMore]
        generalize (t.data.toList.getD k 0).toNat = x at *
        clear hkt
        by_cases hq : x / 64 = 2
        · have h192 : bits .and .u8 (x : Int) 192 = 128 := by rw [u8_and_192 x hx, hq]; rfl
          have hand : bits .and .u8 (x : Int) 63 = ((x % 64 : Nat) : Int) := u8_and_low x 6 63 hx rfl (by omega)
          have hy : x % 64 < 64 := Nat.mod_lt _ (by omega)
          have HO := Lib.hid (or_six m (x % 64) hm2 hy)
          have HR : Hid (uMore t.data.toList n = uMore (t.data.toList.drop (k + 1)) (m * 64 + x % 64)) := by
            show _ = _
            rw [HM.out, HS.out, if_pos hq]
          clear HM HS hq
          generalize x % 64 = y at *
          go_wp2_with fail
          go_round
          case rel => exact ⟨k + 1, m * 64 + y, by omega, by have := HMM.out; rw [Nat.pow_succ]; omega, by go_num, by rw [HO.out], HR⟩
          case measure => simp [intOf]; omega
        · have h192 := u8_and_192 x hx
          have hq2 : (((x / 64 * 64 : Nat) : Int) != 128) = true := by rw [bne_iff_ne]; omega
          have HR : Hid (uMore t.data.toList n = none) := by
            show _ = _
            rw [HM.out, HS.out, if_neg hq]
          clear HM HS hq
          generalize x / 64 * 64 = q at *
          go_wp2_with fail
          go_ret
          refine ⟨?_, HB.out⟩
          rw [HU2.out, ← HT.out, HR.out]
          rfl
      · obtain rfl : k = f := by omega
        have HR : Hid (uMore t.data.toList n = some m) := by
          show _ = _
          rw [HM.out, List.drop_eq_nil_of_le (by have := HTS.out; simp; omega), uMore]
        clear HM hlt
        by_cases hbad : uBad m least
        · have HR2 : Hid (uFirst s.data.toList = 0) := by
            show _ = _
            rw [HU2.out, ← HT.out, HR.out]
            exact if_pos hbad
          clear HU2 HR
          unfold uBad at hbad
          by_cases h1 : m < least
          · clear hbad
            go_wp2_with fail
            go_ret
            exact ⟨by rw [HR2.out]; rfl, HB.out⟩
          by_cases h2 : 1114111 < m
          · clear hbad
            go_wp2_with fail
            go_ret
            exact ⟨by rw [HR2.out]; rfl, HB.out⟩
          have h3 : 55296 ≤ m := by omega
          have h4 : m ≤ 57343 := by omega
          clear hbad
          go_wp2_with fail
          go_ret
          exact ⟨by rw [HR2.out]; rfl, HB.out⟩
        · have HR2 : Hid (uFirst s.data.toList = k + 1) := by
            show _ = _
            rw [HU2.out, ← HT.out, HR.out]
            exact if_neg hbad
          clear HU2 HR
          unfold uBad at hbad
          have h1 : least ≤ m := by omega
          have h2 : m ≤ 1114111 := by omega
          have h3 : m < 55296 ∨ 57343 < m := by omega
          clear hbad
          rcases h3 with h3 | h3
          all_goals
            go_wp2_with fail
            go_ret
            exact ⟨by rw [HR2.out]; rfl, HB.out⟩
end Go.Proofs.YthokkjdolcfhcaaGreatDoor

set_option linter.unusedVariables false
namespace Go.Proofs.YthokkjdolcfhcaaGreatDoor
open Go.RowKit

theorem uWalk_step (L : List UInt8) (n a : Nat) (hn : L.length = n) (ha : a < n) (hu : uFirst (L.drop a) ≠ 0) :
    uWalk (n - a) (L.drop a) = ((uWalk (n - (a + uFirst (L.drop a))) (L.drop (a + uFirst (L.drop a)))).1 + 1, (uWalk (n - (a + uFirst (L.drop a))) (L.drop (a + uFirst (L.drop a)))).2 + uFirst (L.drop a)) := by
  obtain ⟨m, hm⟩ : ∃ m, n - a = m + 1 := ⟨n - a - 1, by omega⟩
  rw [hm, uWalk, if_neg hu, List.drop_drop]
  rw [uWalk_more (n - (a + uFirst (L.drop a))) _ m (by simp; omega) (by omega)]
theorem uWalk_stop (L : List UInt8) (n a : Nat) (hu : uFirst (L.drop a) = 0) : uWalk (n - a) (L.drop a) = (0, 0) := by
  cases h : n - a with
  | zero => rfl
  | succ m => rw [uWalk, if_pos hu]

def WalkPost (r : Nat × Nat) (w : World) (e : Ending) (w' : World) : Prop := e = .returned (.tuple #[.int .i64 r.1, .int .i64 r.2]) ∧ Pure w w'

set_option maxRecDepth 100000 in
set_option maxHeartbeats 1000000 in
theorem u_walk (s : ByteArray) (w : World) (hs2 : s.size ≤ 140737488351232) :
    Calls Tryz.prog 246 #[.string s] w (WalkPost (uWalk s.size s.data.toList) w) := by
  go_enter Tryz.func246, Tryz.ntmps246
  go_wp2_with fail
  go_loopw [4, 5] (fun l a wr => ∃ l1 a1 : Nat, l1 ≤ a1 ∧ a1 ≤ s.size ∧ l = .int .i64 l1 ∧ a = .int .i64 a1 ∧ Hid (uWalk s.size s.data.toList = ((uWalk (s.size - a1) (s.data.toList.drop a1)).1 + l1, (uWalk (s.size - a1) (s.data.toList.drop a1)).2 + a1)) ∧ Hid (Pure w wr)) (fun _ a _ => s.size - (intOf a).toNat)
  case atStart => exact ⟨0, 0, by omega, by omega, rfl, rfl, by simp [Hid], Keep.refl _ _⟩
  case round =>
    obtain ⟨l1, a1, hla, ha, rfl, rfl, HW, HP⟩ := hrel
    by_cases hlt : a1 < s.size
    · have s1 : (0 : Int) ≤ (a1 : Int) := by omega
      have s2 : (a1 : Int) ≤ (s.size : Int) := by omega
      have HT : Hid ((s.extract a1 s.size).data.toList = s.data.toList.drop a1) := by
        show _ = _
        rw [Lib.extract_data, List.take_of_length_le (by simp)]
      have hts : 0 < (s.extract a1 s.size).size := by simp; omega
      have hts2 : (s.extract a1 s.size).size ≤ 140737488351232 := by simp; omega
      go_wp2_with fail
      refine (u_first _ _ hts hts2).mono ?_
      rintro e w1 ⟨rfl, h1⟩
      have HP1 := Lib.hid (HP.out.trans h1)
      rw [HT.out]
      clear h1 hts hts2 HT
      by_cases hu : uFirst (s.data.toList.drop a1) = 0
      · have HR : Hid (uWalk s.size s.data.toList = (l1, a1)) := by
          show _ = _
          rw [HW.out, uWalk_stop _ _ _ hu]; simp
        rw [hu]
        clear hu HW
        go_wp2_with fail
        go_ret2
        exact ⟨by rw [HR.out]; rfl, HP1.out⟩
      · have HR : Hid (uWalk s.size s.data.toList = ((uWalk (s.size - (a1 + uFirst (s.data.toList.drop a1))) (s.data.toList.drop (a1 + uFirst (s.data.toList.drop a1)))).1 + (l1 + 1), (uWalk (s.size - (a1 + uFirst (s.data.toList.drop a1))) (s.data.toList.drop (a1 + uFirst (s.data.toList.drop a1)))).2 + (a1 + uFirst (s.data.toList.drop a1)))) := by
          show _ = _
          rw [HW.out, uWalk_step _ s.size a1 (by simp) hlt hu]
          simp only [Prod.mk.injEq]
          omega
        have hle := uFirst_le (s.data.toList.drop a1)
        have hl2 : (s.data.toList.drop a1).length = s.size - a1 := by simp
        rw [hl2] at hle
        clear hl2 HW
        generalize uFirst (s.data.toList.drop a1) = u at *
        have hu0 : 0 < u := by omega
        have hu1 : ((u : Int) == 0) = false := by simp; omega
        clear hu
        go_wp2_with fail
        go_roundw
        case rel => exact ⟨l1 + 1, a1 + u, by omega, by omega, by go_num, by go_num, HR, HP1⟩
        case measure => simp [intOf]; omega
    · obtain rfl : a1 = s.size := by omega
      have HR : Hid (uWalk s.size s.data.toList = (l1, s.size)) := by
        show _ = _
        rw [HW.out]; simp [uWalk]
      clear HW hlt
      go_wp2_with fail
      go_ret2
      exact ⟨by rw [HR.out]; rfl, HP.out⟩

/-- A text's letters; or why it is none. -/
def LettersPost (σ : Nat → Addr) (s : ByteArray) (w : World) (e : Ending) (w' : World) : Prop :=
  match uCheck s with
  | none => (∃ n : Nat, e = .returned (.tuple #[.int .i64 n, .nilIface])) ∧ Pure w w'
  | some f => ∃ g, e = .returned (.tuple #[.int .i64 0, .iface 148 (.pointer (some ⟨g, 0, none⟩))]) ∧ f.ok ∧ ErC σ w' g f ∧ Pure w w'
theorem u_letters (b : Nat) (σ : Nat → Addr) (s : ByteArray) (w : World) (hG : Gl b σ w) (hs2 : s.size ≤ 140737488351232) :
    Calls Tryz.prog 223 #[.string s] w (LettersPost σ s w) := by
  have HG := Lib.hid hG
  by_cases hl : 65535 < s.size
  · have HR : Hid (uCheck s = some ⟨4, 129, 65535⟩) := by unfold uCheck; rw [if_pos hl]; rfl
    have c4 := hG.c4
    clear hG
    go_enter Tryz.func223, Tryz.ntmps223
    go_wp2_with (go_at_call 68; refine (new_any σ 4 _ _ _ (by omega) (by omega)).mono ?_; rintro e w' ⟨g', rfl, rfl, rfl⟩)
    go_ret2
    unfold LettersPost
    rw [HR.out]
    exact ⟨_, rfl, flt_ok (by omega) (by omega), .base _ _ _ _ (Blk.new _ _ _), (Keep.refl _ _).alloc _⟩
  · clear hG
    have hle : s.size ≤ 65535 := by omega
    go_enter Tryz.func223, Tryz.ntmps223
    go_wp2_with fail
    refine (u_walk s w hs2).mono ?_
    rintro e w1 ⟨rfl, h1⟩
    have HP1 := Lib.hid h1
    have HG1 := Lib.hid (HG.out.pure h1)
    clear h1
    have hle2 := (uWalk_le s.size s.data.toList).1
    have hll : s.data.toList.length = s.size := by simp
    rw [hll] at hle2
    clear hll
    by_cases hlt : (uWalk s.size s.data.toList).2 < s.size
    · have HR : Hid (uCheck s = some ⟨2, 129, (uWalk s.size s.data.toList).2⟩) := by unfold uCheck; rw [if_neg hl, if_pos hlt]; rfl
      have c2 := HG1.out.c2
      clear hl
      generalize (uWalk s.size s.data.toList).2 = u at *
      generalize (uWalk s.size s.data.toList).1 = u1 at *
      go_wp2_with (go_at_call 68; refine (new_any σ 2 _ _ _ (by omega) (by omega)).mono ?_; rintro e w' ⟨g', rfl, rfl, rfl⟩)
      go_ret2
      unfold LettersPost
      rw [HR.out]
      exact ⟨_, rfl, flt_ok (by omega) (by omega), .base _ _ _ _ (Blk.new _ _ _), HP1.out.alloc _⟩
    · have HR : Hid (uCheck s = none) := by unfold uCheck; rw [if_neg hl, if_neg hlt]; rfl
      clear hl
      generalize (uWalk s.size s.data.toList).2 = u at *
      generalize (uWalk s.size s.data.toList).1 = u1 at *
      go_wp2_with fail
      go_ret2
      unfold LettersPost
      rw [HR.out]
      exact ⟨⟨u1, rfl⟩, HP1.out⟩

/-- utf.Check. -/
theorem u_check (b : Nat) (σ : Nat → Addr) (s : ByteArray) (w : World) (hG : Gl b σ w) (hs2 : s.size ≤ 140737488351232) :
    Calls Tryz.prog 172 #[.string s] w fun e w' => ∃ v, e = .returned v ∧ Er σ w' v (uCheck s) ∧ Pure w w' := by
  have HC := Lib.hid (u_letters b σ s w hG hs2)
  clear hG
  go_enter Tryz.func172, Tryz.ntmps172
  go_wp2_with fail
  refine HC.out.mono ?_
  intro e w1 h
  unfold LettersPost at h
  cases hc : uCheck s with
  | none =>
    rw [hc] at h
    obtain ⟨⟨n, rfl⟩, h1⟩ := h
    have HP := Lib.hid h1
    have HQ := Lib.hid hc
    clear h1 hc
    go_wp2_with fail
    go_ret
    refine ⟨_, rfl, ?_, HP.out⟩
    rw [HQ.out]
    rfl
  | some f =>
    rw [hc] at h
    obtain ⟨g, rfl, ho, he, h1⟩ := h
    have HP := Lib.hid h1
    have HE : Hid (f.ok ∧ ErC σ w1 g f) := ⟨ho, he⟩
    have HQ := Lib.hid hc
    clear h1 hc ho he
    go_wp2_with fail
    go_ret
    refine ⟨_, rfl, ?_, HP.out⟩
    rw [HQ.out]
    exact ⟨HE.out.1, _, rfl, HE.out.2⟩
end Go.Proofs.YthokkjdolcfhcaaGreatDoor

set_option linter.unusedVariables false
namespace Go.Proofs.YthokkjdolcfhcaaGreatDoor
open Go.RowKit

theorem Rd.store_err {b : Nat} {σ : Nat → Addr} {w : World} {g g' : Nat} {st : RS} {f : Flt} (h : Rd b σ w g st) (ho : f.ok) (he : ErC σ w g' f) :
    Rd b σ (w.setCell ⟨g, 2, none⟩ (.iface 148 (.pointer (some ⟨g', 0, none⟩)))) g { st with e := some f } ∧
      Only g w (w.setCell ⟨g, 2, none⟩ (.iface 148 (.pointer (some ⟨g', 0, none⟩)))) := by
  obtain ⟨v, hb, hv, hbg, hok⟩ := h
  have hk := (Keep.refl (fun k => k = g) w).setCell (p := ⟨g, 2, none⟩) (.inl rfl) (.iface 148 (.pointer (some ⟨g', 0, none⟩)))
  refine ⟨⟨.iface 148 (.pointer (some ⟨g', 0, none⟩)), ?_, ⟨ho, g', rfl, ?_⟩, hbg, hok⟩, hk⟩
  · have h2 := hb.set_ 2 (.iface 148 (.pointer (some ⟨g', 0, none⟩)))
    simpa using h2
  · exact he.keep hk fun i cs hi e => by subst e; exact Blk.ne_ hb hi (by decide) rfl

theorem Rd.set_at {b : Nat} {σ : Nat → Addr} {w : World} {g : Nat} {s : ByteArray} {a a2 : Nat} {er : Option Flt} (h : Rd b σ w g ⟨s, a, er⟩) (ha : a2 ≤ s.size) :
    Rd b σ (w.setCell ⟨g, 1, none⟩ (.int .i64 a2)) g ⟨s, a2, er⟩ ∧ Only g w (w.setCell ⟨g, 1, none⟩ (.int .i64 a2)) := by
  obtain ⟨v, hb, hv, hbg, hok⟩ := h
  have hk := (Keep.refl (fun k => k = g) w).setCell (p := ⟨g, 1, none⟩) (.inl rfl) (.int .i64 (a2 : Int))
  refine ⟨⟨v, ?_, hv.only hk hb (by decide), hbg, ha, hok.2⟩, hk⟩
  have h2 := hb.set_ 1 (.int .i64 (a2 : Int))
  simpa using h2

set_option maxHeartbeats 1000000 in
theorem r_text (b : Nat) (σ : Nat → Addr) (g : Nat) (st : RS) (w : World) (hG : Gl b σ w) (hR : Rd b σ w g st) :
    Calls Tryz.prog 182 #[.pointer (some ⟨g, 0, none⟩)] w fun e w' => e = .returned (.string st.text.1) ∧ Rd b σ w' g st.text.2 ∧ Only g w w' := by
  have HG := Lib.hid hG
  have HR := Lib.hid hR
  have hok : st.Ok := hR.elim fun _ h => h.2.2.2
  have HK := Lib.hid hok
  have ha : (st.at_ : Int) ≤ 140737488351232 := by have := hok.1; have := hok.2; omega
  have HBS : Hid (st.bin.1.size ≤ 140737488351232) := by
    show st.bin.1.size ≤ _
    have h1 := RS.raw_le (st.num 2).2 (st.num 2).1
    rw [RS.num_s] at h1
    have := hok.2
    show ((st.num 2).2.raw (st.num 2).1).1.size ≤ _
    omega
  clear hG hR hok
  go_enter Tryz.func182, Tryz.ntmps182
  go_wp2_with fail
  refine (r_at b σ g st w HR.out).mono ?_; rintro e w' ⟨rfl, rfl⟩
  go_wp2_with fail
  refine (r_bin b σ g st w HG.out HR.out).mono ?_; rintro e w1 ⟨rfl, h1, h2⟩
  have HR1 := Lib.hid h1
  have HP1 := Lib.hid h2
  have HG1 := Lib.hid (HG.out.only h2 h1)
  clear h1 h2
  go_wp2_with fail
  refine (r_off b σ g _ w1 HR1.out).mono ?_; rintro e w' ⟨rfl, rfl⟩
  cases hbe : st.bin.2.e with
  | some f =>
    have HT : Hid (st.text = (noBytes, st.bin.2)) := by show _ = _; unfold RS.text; rw [hbe]
    clear hbe
    go_wp2_with fail
    go_ret
    rw [HT.out]
    exact ⟨rfl, HR1.out, HP1.out⟩
  | none =>
    have HBE := Lib.hid hbe
    clear hbe
    go_wp2_with fail
    refine (u_check b σ _ w1 HG1.out HBS.out).mono ?_; rintro e w2 ⟨v, rfl, hE, hP⟩
    have HP2 := Lib.hid (HP1.out.trans (Keep.of_pure hP))
    have HR2 := Lib.hid (HR1.out.pure hP)
    have HG2 := Lib.hid (HG1.out.pure hP)
    cases hu : uCheck st.bin.1 with
    | none =>
      have HT : Hid (st.text = st.bin) := by show _ = _; unfold RS.text; rw [HBE.out, hu]
      rw [hu] at hE
      simp only [Er] at hE
      subst hE
      clear hu hP
      go_wp2_with fail
      go_ret
      rw [HT.out]
      exact ⟨rfl, HR2.out, HP2.out⟩
    | some f =>
      have HT : Hid (st.text = (noBytes, ⟨st.s, st.at_, some (deeperS f (st.at_ + 2))⟩)) := by show _ = _; unfold RS.text; rw [HBE.out, hu]
      rw [hu] at hE
      obtain ⟨ho, g', x, rfl, hc, _⟩ := hE.some_
      have HC := Lib.hid hc
      have HO := Lib.hid ho
      clear hu hP hE ho hc
      go_wp2_with fail
      refine (deeper_some σ b g' f _ w2 HG2.out HC.out).mono ?_; rintro e w3 ⟨g3, rfl, hc3, hP3⟩
      have HC3 := Lib.hid hc3
      have HP3 := Lib.hid (HP2.out.trans (Keep.of_pure hP3))
      have HR3 := Lib.hid (HR2.out.pure hP3)
      obtain ⟨v3, hb3, _⟩ := HR3.out
      have c2 := hb3.cell 2
      have f2 := hb3.frozen 2
      simp at c2
      have HST := Lib.hid (Rd.store_err HR3.out (f := ⟨f.k, f.r, furtherS f.a ((st.at_ : Int) + 2)⟩) HO.out HC3.out)
      clear hc3 hP3 hb3
      go_wp2_with fail
      generalize w3.setCell ⟨g, 2, none⟩ (.iface 148 (.pointer (some ⟨g3, 0, none⟩))) = w4 at *
      clear c2 f2
      refine (r_back b σ g _ _ w4 HST.out.1 (by simp only [RS.bin_s]; exact HK.out.1)).mono ?_; rintro e w5 ⟨rfl, h1, h2⟩
      have HR5 := Lib.hid h1
      have HP5 := Lib.hid ((HP3.out.trans HST.out.2).trans h2)
      clear h1 h2
      go_wp2_with fail
      go_ret
      rw [HT.out]
      refine ⟨rfl, ?_, HP5.out⟩
      have h := HR5.out
      simp only [RS.back, RS.bin_s] at h
      exact h

theorem v_take_ok (b : Nat) (σ : Nat → Addr) (s : ByteArray) (n k : Nat) (w : World) (hG : Gl b σ w) (hv : vtake s = .ok (n, k)) :
    Calls Tryz.prog 220 #[.string s] w fun e w' => e = .returned (.tuple #[.int .i64 n, .int .i64 k, .nilIface]) ∧ Pure w w' := by
  refine (v_take b σ s w hG).mono ?_
  intro e w' h
  unfold VtPost at h
  rw [hv] at h
  exact h
theorem v_take_err (b : Nat) (σ : Nat → Addr) (s : ByteArray) (f : Flt) (w : World) (hG : Gl b σ w) (hv : vtake s = .error f) :
    Calls Tryz.prog 220 #[.string s] w fun e w' => ∃ g, e = .returned (.tuple #[.int .i64 0, .int .i64 0, .iface 148 (.pointer (some ⟨g, 0, none⟩))]) ∧ f.ok ∧ ErC σ w' g f ∧ Pure w w' := by
  refine (v_take b σ s w hG).mono ?_
  intro e w' h
  unfold VtPost at h
  rw [hv] at h
  exact h
set_option maxHeartbeats 1000000 in
theorem r_var (b : Nat) (σ : Nat → Addr) (g : Nat) (st : RS) (w : World) (hG : Gl b σ w) (hR : Rd b σ w g st) :
    Calls Tryz.prog 168 #[.pointer (some ⟨g, 0, none⟩)] w fun e w' => e = .returned (.int .i64 st.var.1) ∧ Rd b σ w' g st.var.2 ∧ Only g w w' := by
  have HG := Lib.hid hG
  have HR := Lib.hid hR
  obtain ⟨s, a, er⟩ := st
  obtain ⟨v, hb, he, hbg, hok⟩ := hR
  have c0 := hb.cell 0
  have c1 := hb.cell 1
  simp at c0 c1
  have hlt := hb.lt
  have HB := Lib.hid hb
  have ha1 : (a : Int) ≤ s.size := by have := hok.1; simp only at this; omega
  have ha2 : (s.size : Int) ≤ 140737488351232 := by have := hok.2; simp only at this; omega
  have ha0 : (0 : Int) ≤ (a : Int) := by omega
  clear hG hb he
  cases er with
  | some f =>
    go_enter Tryz.func168, Tryz.ntmps168
    go_wp2_with fail
    refine (r_off b σ g _ w HR.out).mono ?_; rintro e w' ⟨rfl, rfl⟩
    go_wp2_with fail
    go_ret
    exact ⟨rfl, HR.out, Keep.refl _ _⟩
  | none =>
    cases hv : vtake (s.extract a s.size) with
    | ok x =>
      obtain ⟨n, k⟩ := x
      have HV : Hid ((⟨s, a, none⟩ : RS).var = (n, ⟨s, a + k, none⟩)) := by show _ = _; unfold RS.var; simp only; rw [hv]
      have HQ := Lib.hid hv
      have hvb : a + k ≤ s.size := by
        have hb2 := vtk_bound _ _ _ _ _ (by simp) hv
        have hl : (s.extract a s.size).data.toList.length ≤ s.size - a := by simp
        omega
      clear hv
      go_enter Tryz.func168, Tryz.ntmps168
      go_wp2_with fail
      refine (r_off b σ g _ w HR.out).mono ?_; rintro e w' ⟨rfl, rfl⟩
      go_wp2_with fail
      go_region_with (go_at_call 220; refine (v_take_ok b σ _ n k _ (HG.out.drew) HQ.out).mono ?_; rintro e w' ⟨rfl, hP⟩)
      all_goals
        have HP1 := Lib.hid (((Keep.refl (fun _ => False) w).drew).trans hP)
        have HR1 := Lib.hid (HR.out.pure HP1.out)
        obtain ⟨v1, hb1, _⟩ := HR1.out
        have d1 := hb1.cell 1
        have f1 := hb1.frozen 1
        simp at d1
        have HST := Lib.hid (Rd.set_at HR1.out hvb)
        clear hb1 hP c0 c1
        go_wp2_with fail
        go_ret
        rw [HV.out]
        exact ⟨rfl, by have h := HST.out.1; simpa using h, (Keep.of_pure HP1.out).trans (by have h := HST.out.2; simpa using h)⟩
    | error f =>
      have HV : Hid ((⟨s, a, none⟩ : RS).var = (0, ⟨s, a, some (deeperS f a)⟩)) := by show _ = _; unfold RS.var; simp only; rw [hv]
      have HQ := Lib.hid hv
      clear hv
      go_enter Tryz.func168, Tryz.ntmps168
      go_wp2_with fail
      refine (r_off b σ g _ w HR.out).mono ?_; rintro e w' ⟨rfl, rfl⟩
      go_wp2_with fail
      go_region_with (go_at_call 220; refine (v_take_err b σ _ f _ (HG.out.drew) HQ.out).mono ?_; rintro e w' ⟨g2, rfl, ho, hc, hP⟩)
      all_goals
        have HP1 := Lib.hid (((Keep.refl (fun _ => False) w).drew).trans hP)
        have HR1 := Lib.hid (HR.out.pure HP1.out)
        have HG1 := Lib.hid (HG.out.pure HP1.out)
        have HO := Lib.hid ho
        have HC := Lib.hid hc
        obtain ⟨v1, hb1, _⟩ := HR1.out
        have d1 := hb1.cell 1
        simp at d1
        clear hb1 hP c0 c1 ho hc
        go_wp2_with fail
        refine (deeper_some σ b g2 f _ _ HG1.out HC.out).mono ?_; rintro e w3 ⟨g3, rfl, hc3, hP3⟩
        have HR3 := Lib.hid (HR1.out.pure hP3)
        have HP3 := Lib.hid (HP1.out.trans hP3)
        obtain ⟨v3, hb3, _⟩ := HR3.out
        have d2 := hb3.cell 2
        have f2 := hb3.frozen 2
        simp at d2
        have HST := Lib.hid (Rd.store_err HR3.out (f := ⟨f.k, f.r, furtherS f.a (a : Int)⟩) HO.out hc3)
        clear hb3 hP3 hc3
        go_wp2_with fail
        go_ret
        rw [HV.out]
        exact ⟨rfl, HST.out.1, (Keep.of_pure HP3.out).trans HST.out.2⟩
end Go.Proofs.YthokkjdolcfhcaaGreatDoor

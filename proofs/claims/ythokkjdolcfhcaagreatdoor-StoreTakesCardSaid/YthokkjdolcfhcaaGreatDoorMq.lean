/- Package store: Put at the closed records of the statement. Package store: Replay at the closed records of the statement. Package store: Replay at the closed records of the statement. -/
import Derived.Test.YthokkjdolcfhcaaGreatDoorMp
import Derived.Test.YthokkjdolcfhcaaGreatDoorMi
import Derived.KernelRfl
import Derived.Deep.RegionLaw
import Derived.WalkLawsBesides
import Derived.WalkSpells

set_option linter.unusedVariables false
namespace Go.Proofs.YthokkjdolcfhcaaGreatDoor
open Go.RowKit

def mA : SMsg := ⟨⟨#[116]⟩, ⟨#[120]⟩, 1, false, [], noBytes, 1099511627776, 2, ⟨#[103]⟩⟩
def oA : SOp := ⟨1, ⟨#[103]⟩, 2, mA⟩
def oB : SOp := ⟨2, ⟨#[103]⟩, 2, zMsg⟩
def oC : SOp := ⟨3, ⟨#[47]⟩, 2, zMsg⟩
def bA : ByteArray := ⟨#[1, 0, 1, 103, 0, 0, 0, 2, 0, 1, 116, 0, 1, 120, 1, 0, 0, 0, 0, 1, 0, 0, 0, 0, 0, 0]⟩
def bB : ByteArray := ⟨#[2, 0, 1, 103, 0, 0, 0, 2]⟩
def bC : ByteArray := ⟨#[3, 0, 1, 47, 0, 0, 0, 2]⟩
def bBad : ByteArray := ⟨#[98, 97, 100]⟩
theorem take_A : sTake bA = .ok oA := by kernel_rfl
theorem take_B : sTake bB = .ok oB := by kernel_rfl
theorem take_Bad : sTake bBad = .error ⟨1, 129, 3⟩ := by kernel_rfl
def mWs (ws : WS) : WS := ((((((ws.bin ⟨#[116]⟩).bin ⟨#[120]⟩).num 1 1).bin ⟨#[]⟩).num 4 256).num 4 0).raw ⟨#[0]⟩
theorem put_A : (mWs (((ws0.num 1 1).bin ⟨#[103]⟩).num 4 2)).bytes = .ok bA := by kernel_rfl
theorem put_B : (((ws0.num 1 2).bin ⟨#[103]⟩).num 4 2).bytes = .ok bB := by kernel_rfl
theorem put_C : (((ws0.num 1 3).bin ⟨#[47]⟩).num 4 2).bytes = .ok bC := by kernel_rfl
theorem enc_nil : pEncode 3 [] = .ok ⟨#[0]⟩ := by kernel_rfl
theorem may_A : sMay oA = true := by kernel_rfl
theorem may_B : sMay oB = true := by kernel_rfl
theorem may_C : sMay oC = true := by kernel_rfl

theorem bytes_of {ws : WS} {s : ByteArray} (h : ws.bytes = .ok s) : ws.e = none := by
  unfold WS.bytes at h
  cases he : ws.e with
  | none => rfl
  | some f => rw [he] at h; cases h
theorem bytes_all {ws : WS} {s : ByteArray} (h : ws.bytes = .ok s) : ws.all = s := by
  unfold WS.bytes at h
  rw [bytes_of (by unfold WS.bytes; exact h)] at h
  injection h

theorem sz1 (x : Nat) (h : x ≤ 1000) : x ≤ 140737488351232 := by omega
set_option maxRecDepth 100000 in
set_option maxHeartbeats 2000000 in
theorem s_msg_A (A : Option Addr) (c : Nat) (b : Nat) (σ : Nat → Addr) (g : Nat) (ws : WS) (hl : ws.all.size ≤ 1000) (w : World) (hG : Gl b σ w) (hR : Wr b σ w g ws) :
    Calls Tryz.prog 130 #[.pointer (some ⟨g, 0, none⟩), .agg #[.string ⟨#[116]⟩, .string ⟨#[120]⟩, .int .i64 1, .bool false, .slice A 0 c, .string ⟨#[]⟩, .int .i64 1099511627776, .int .i64 2, .string ⟨#[103]⟩]] w fun e w' => e = .returned .nilIface ∧ Wr b σ w' g (mWs ws) ∧ From g w w' := by
  have hlt : g < w.heap.size := by obtain ⟨v, x, hb, _⟩ := hR; exact hb.lt
  have hP : Pure w (w.alloc (.cells #[.string ⟨#[116]⟩, .string ⟨#[120]⟩, .int .i64 1, .bool false, .slice A 0 c, .string ⟨#[]⟩, .int .i64 1099511627776, .int .i64 2, .string ⟨#[103]⟩] 25)) := (Keep.refl _ w).alloc _
  have HB1 : Hid (Blk (w.alloc (.cells #[.string ⟨#[116]⟩, .string ⟨#[120]⟩, .int .i64 1, .bool false, .slice A 0 c, .string ⟨#[]⟩, .int .i64 1099511627776, .int .i64 2, .string ⟨#[103]⟩] 25)) w.heap.size 25 #[.string ⟨#[116]⟩, .string ⟨#[120]⟩, .int .i64 1, .bool false, .slice A 0 c, .string ⟨#[]⟩, .int .i64 1099511627776, .int .i64 2, .string ⟨#[103]⟩]) := Blk.new _ _ _
  have HG1 := Lib.hid (hG.pure hP)
  have HW1 := Lib.hid (hR.pure hP)
  have HF1 : Hid (From g w (w.alloc (.cells #[.string ⟨#[116]⟩, .string ⟨#[120]⟩, .int .i64 1, .bool false, .slice A 0 c, .string ⟨#[]⟩, .int .i64 1099511627776, .int .i64 2, .string ⟨#[103]⟩] 25))) := From.of_pure hP
  have HNE : Hid (w.heap.size ≠ g) := by show _ ≠ _; omega
  have z1 := WS.bin_size ws ⟨#[116]⟩
  have z2 := WS.bin_size (ws.bin ⟨#[116]⟩) ⟨#[120]⟩
  have z3 := WS.num_size ((ws.bin ⟨#[116]⟩).bin ⟨#[120]⟩) 1 1
  have z4 := WS.bin_size (((ws.bin ⟨#[116]⟩).bin ⟨#[120]⟩).num 1 1) ⟨#[]⟩
  have z5 := WS.num_size ((((ws.bin ⟨#[116]⟩).bin ⟨#[120]⟩).num 1 1).bin ⟨#[]⟩) 4 256
  have z6 := WS.num_size (((((ws.bin ⟨#[116]⟩).bin ⟨#[120]⟩).num 1 1).bin ⟨#[]⟩).num 4 256) 4 0
  have y1 : (⟨#[116]⟩ : ByteArray).size = 1 := rfl
  have y2 : (⟨#[120]⟩ : ByteArray).size = 1 := rfl
  have y3 : (⟨#[]⟩ : ByteArray).size = 0 := rfl
  have y4 : (⟨#[0]⟩ : ByteArray).size = 1 := rfl
  have HZ : Hid (ws.all.size + 2 + (⟨#[116]⟩ : ByteArray).size ≤ 140737488351232 ∧ (ws.bin ⟨#[116]⟩).all.size + 2 + (⟨#[120]⟩ : ByteArray).size ≤ 140737488351232 ∧ ((ws.bin ⟨#[116]⟩).bin ⟨#[120]⟩).all.size ≤ 140737488351232 ∧ (((ws.bin ⟨#[116]⟩).bin ⟨#[120]⟩).num 1 1).all.size + 2 + (⟨#[]⟩ : ByteArray).size ≤ 140737488351232 ∧ ((((ws.bin ⟨#[116]⟩).bin ⟨#[120]⟩).num 1 1).bin ⟨#[]⟩).all.size ≤ 140737488351232 ∧ (((((ws.bin ⟨#[116]⟩).bin ⟨#[120]⟩).num 1 1).bin ⟨#[]⟩).num 4 256).all.size ≤ 140737488351232 ∧ ((((((ws.bin ⟨#[116]⟩).bin ⟨#[120]⟩).num 1 1).bin ⟨#[]⟩).num 4 256).num 4 0).all.size + (⟨#[0]⟩ : ByteArray).size ≤ 140737488351232) := by
    refine ⟨?_, ?_, ?_, ?_, ?_, ?_, ?_⟩ <;> omega
  clear z1 z2 z3 z4 z5 z6 y1 y2 y3 y4 hl hP hG hR
  go_enter Tryz.func130, Tryz.ntmps130
  go_wp2_with fail
  generalize w.alloc (.cells #[.string ⟨#[116]⟩, .string ⟨#[120]⟩, .int .i64 1, .bool false, .slice A 0 c, .string ⟨#[]⟩, .int .i64 1099511627776, .int .i64 2, .string ⟨#[103]⟩] 25) = w1 at *
  refine (p_encode b σ 3 A c w1.heap.size [] w1 HG1.out ⟨by simp [prRow], fun h => absurd h (by simp)⟩ (Nat.le_refl _) (by simp [pBytes]) (by simp) (by simp)).mono ?_; rintro e w2 ⟨hP, h2⟩
  rw [enc_nil] at h2
  simp only at h2
  subst h2
  have HG2 := Lib.hid (HG1.out.pure hP)
  have HW2 := Lib.hid (HW1.out.pure hP)
  have HF2 := Lib.hid (HF1.out.trans (From.of_pure hP))
  have HB2 := Lib.hid (hP.blk HB1.out fun hf => hf)
  clear hP
  have c20 := HB2.out.cell 0
  have c21 := HB2.out.cell 1
  have c22 := HB2.out.cell 2
  have c23 := HB2.out.cell 3
  have c24 := HB2.out.cell 4
  have c25 := HB2.out.cell 5
  have c26 := HB2.out.cell 6
  have c27 := HB2.out.cell 7
  have c28 := HB2.out.cell 8
  simp at c20 c21 c22 c23 c24 c25 c26 c27 c28
  go_wp2_with fail
  refine (w_bin b σ g _ ⟨#[116]⟩ HZ.out.1 w2 HG2.out HW2.out).mono ?_; rintro e w3 ⟨rfl, h1, h2⟩
  have HW3 := Lib.hid h1
  have HG3 := Lib.hid (HG2.out.from_ h2 h1)
  have HF3 := Lib.hid (HF2.out.trans h2)
  have HB3 := Lib.hid (h2.blk HB2.out HNE.out (by decide))
  clear h1 h2
  clear c20 c21 c22 c23 c24 c25 c26 c27 c28
  have c30 := HB3.out.cell 0
  have c31 := HB3.out.cell 1
  have c32 := HB3.out.cell 2
  have c33 := HB3.out.cell 3
  have c34 := HB3.out.cell 4
  have c35 := HB3.out.cell 5
  have c36 := HB3.out.cell 6
  have c37 := HB3.out.cell 7
  have c38 := HB3.out.cell 8
  simp at c30 c31 c32 c33 c34 c35 c36 c37 c38
  go_wp2_with fail
  refine (w_bin b σ g _ ⟨#[120]⟩ HZ.out.2.1 w3 HG3.out HW3.out).mono ?_; rintro e w4 ⟨rfl, h1, h2⟩
  have HW4 := Lib.hid h1
  have HG4 := Lib.hid (HG3.out.from_ h2 h1)
  have HF4 := Lib.hid (HF3.out.trans h2)
  have HB4 := Lib.hid (h2.blk HB3.out HNE.out (by decide))
  clear h1 h2
  clear c30 c31 c32 c33 c34 c35 c36 c37 c38
  have c40 := HB4.out.cell 0
  have c41 := HB4.out.cell 1
  have c42 := HB4.out.cell 2
  have c43 := HB4.out.cell 3
  have c44 := HB4.out.cell 4
  have c45 := HB4.out.cell 5
  have c46 := HB4.out.cell 6
  have c47 := HB4.out.cell 7
  have c48 := HB4.out.cell 8
  simp at c40 c41 c42 c43 c44 c45 c46 c47 c48
  go_wp2_with fail
  refine (w_u8 b σ g _ HZ.out.2.2.1 1 w4 HG4.out HW4.out).mono ?_; rintro e w5 ⟨rfl, h1, h2⟩
  have HW5 := Lib.hid h1
  have HG5 := Lib.hid (HG4.out.from_ h2 h1)
  have HF5 := Lib.hid (HF4.out.trans h2)
  have HB5 := Lib.hid (h2.blk HB4.out HNE.out (by decide))
  clear h1 h2
  clear c40 c41 c42 c43 c44 c45 c46 c47 c48
  have c50 := HB5.out.cell 0
  have c51 := HB5.out.cell 1
  have c52 := HB5.out.cell 2
  have c53 := HB5.out.cell 3
  have c54 := HB5.out.cell 4
  have c55 := HB5.out.cell 5
  have c56 := HB5.out.cell 6
  have c57 := HB5.out.cell 7
  have c58 := HB5.out.cell 8
  simp at c50 c51 c52 c53 c54 c55 c56 c57 c58
  go_wp2_with fail
  refine (w_bin b σ g _ ⟨#[]⟩ HZ.out.2.2.2.1 w5 HG5.out HW5.out).mono ?_; rintro e w6 ⟨rfl, h1, h2⟩
  have HW6 := Lib.hid h1
  have HG6 := Lib.hid (HG5.out.from_ h2 h1)
  have HF6 := Lib.hid (HF5.out.trans h2)
  have HB6 := Lib.hid (h2.blk HB5.out HNE.out (by decide))
  clear h1 h2
  clear c50 c51 c52 c53 c54 c55 c56 c57 c58
  have c60 := HB6.out.cell 0
  have c61 := HB6.out.cell 1
  have c62 := HB6.out.cell 2
  have c63 := HB6.out.cell 3
  have c64 := HB6.out.cell 4
  have c65 := HB6.out.cell 5
  have c66 := HB6.out.cell 6
  have c67 := HB6.out.cell 7
  have c68 := HB6.out.cell 8
  simp at c60 c61 c62 c63 c64 c65 c66 c67 c68
  go_wp2_with fail
  refine (w_u32 b σ g _ HZ.out.2.2.2.2.1 256 w6 HG6.out HW6.out).mono ?_; rintro e w7 ⟨rfl, h1, h2⟩
  have HW7 := Lib.hid h1
  have HG7 := Lib.hid (HG6.out.from_ h2 h1)
  have HF7 := Lib.hid (HF6.out.trans h2)
  have HB7 := Lib.hid (h2.blk HB6.out HNE.out (by decide))
  clear h1 h2
  clear c60 c61 c62 c63 c64 c65 c66 c67 c68
  have c70 := HB7.out.cell 0
  have c71 := HB7.out.cell 1
  have c72 := HB7.out.cell 2
  have c73 := HB7.out.cell 3
  have c74 := HB7.out.cell 4
  have c75 := HB7.out.cell 5
  have c76 := HB7.out.cell 6
  have c77 := HB7.out.cell 7
  have c78 := HB7.out.cell 8
  simp at c70 c71 c72 c73 c74 c75 c76 c77 c78
  go_wp2_with fail
  refine (w_u32 b σ g _ HZ.out.2.2.2.2.2.1 0 w7 HG7.out HW7.out).mono ?_; rintro e w8 ⟨rfl, h1, h2⟩
  have HW8 := Lib.hid h1
  have HG8 := Lib.hid (HG7.out.from_ h2 h1)
  have HF8 := Lib.hid (HF7.out.trans h2)
  have HB8 := Lib.hid (h2.blk HB7.out HNE.out (by decide))
  clear h1 h2
  clear c70 c71 c72 c73 c74 c75 c76 c77 c78
  have c80 := HB8.out.cell 0
  have c81 := HB8.out.cell 1
  have c82 := HB8.out.cell 2
  have c83 := HB8.out.cell 3
  have c84 := HB8.out.cell 4
  have c85 := HB8.out.cell 5
  have c86 := HB8.out.cell 6
  have c87 := HB8.out.cell 7
  have c88 := HB8.out.cell 8
  simp at c80 c81 c82 c83 c84 c85 c86 c87 c88
  go_wp2_with fail
  refine (w_raw b σ g _ ⟨#[0]⟩ HZ.out.2.2.2.2.2.2 w8 HG8.out HW8.out).mono ?_; rintro e w9 ⟨rfl, h1, h2⟩
  have HW9 := Lib.hid h1
  have HG9 := Lib.hid (HG8.out.from_ h2 h1)
  have HF9 := Lib.hid (HF8.out.trans h2)
  have HB9 := Lib.hid (h2.blk HB8.out HNE.out (by decide))
  clear h1 h2
  clear c80 c81 c82 c83 c84 c85 c86 c87 c88
  go_wp2_with fail
  go_ret
  exact ⟨rfl, HW9.out, HF9.out⟩

set_option maxRecDepth 100000 in
set_option maxHeartbeats 2000000 in
theorem s_put_A (A : Option Addr) (c : Nat) (b : Nat) (σ : Nat → Addr) (w : World) (hG : Gl b σ w) :
    Calls Tryz.prog 56 #[.agg #[.int .i64 1, .string ⟨#[103]⟩, .int .i64 2, .string ⟨#[116]⟩, .string ⟨#[120]⟩, .int .i64 1, .bool false, .slice A 0 c, .string ⟨#[]⟩, .int .i64 1099511627776, .int .i64 2, .string ⟨#[103]⟩]] w fun e w' => e = .returned (.tuple #[.string bA, .nilIface]) ∧ Pure w w' := by
  have hP : Pure w (w.alloc (.cells #[.int .i64 1, .string ⟨#[103]⟩, .int .i64 2, .string ⟨#[116]⟩, .string ⟨#[120]⟩, .int .i64 1, .bool false, .slice A 0 c, .string ⟨#[]⟩, .int .i64 1099511627776, .int .i64 2, .string ⟨#[103]⟩] 27)) := (Keep.refl _ w).alloc _
  have HP1 := Lib.hid hP
  have HB1 : Hid (Blk (w.alloc (.cells #[.int .i64 1, .string ⟨#[103]⟩, .int .i64 2, .string ⟨#[116]⟩, .string ⟨#[120]⟩, .int .i64 1, .bool false, .slice A 0 c, .string ⟨#[]⟩, .int .i64 1099511627776, .int .i64 2, .string ⟨#[103]⟩] 27)) w.heap.size 27 #[.int .i64 1, .string ⟨#[103]⟩, .int .i64 2, .string ⟨#[116]⟩, .string ⟨#[120]⟩, .int .i64 1, .bool false, .slice A 0 c, .string ⟨#[]⟩, .int .i64 1099511627776, .int .i64 2, .string ⟨#[103]⟩]) := Blk.new _ _ _
  have HG1 := Lib.hid (hG.pure hP)
  have z1 := WS.num_size ws0 1 1
  have z2 := WS.bin_size (ws0.num 1 1) ⟨#[103]⟩
  have z3 := WS.num_size ((ws0.num 1 1).bin ⟨#[103]⟩) 4 2
  have y1 : (⟨#[103]⟩ : ByteArray).size = 1 := rfl
  have y2 : ws0.all.size = 0 := rfl
  have HZ : Hid (ws0.all.size ≤ 140737488351232 ∧ (ws0.num 1 1).all.size + 2 + (⟨#[103]⟩ : ByteArray).size ≤ 140737488351232 ∧ ((ws0.num 1 1).bin ⟨#[103]⟩).all.size ≤ 140737488351232 ∧ (((ws0.num 1 1).bin ⟨#[103]⟩).num 4 2).all.size ≤ 1000) := by
    refine ⟨?_, ?_, ?_, ?_⟩ <;> omega
  have HMY : Hid (∀ (A' : Option Addr) (n' c' : Nat) (w : World), Calls Tryz.prog 67 #[.agg #[.int .i64 1, .string ⟨#[103]⟩, .int .i64 2, .string ⟨#[116]⟩, .string ⟨#[120]⟩, .int .i64 1, .bool false, .slice A' n' c', .string ⟨#[]⟩, .int .i64 1099511627776, .int .i64 2, .string ⟨#[103]⟩]] w fun e w' => e = .returned (.bool true) ∧ Pure w w') := fun A' n' c' w => (s_may oA A' n' c' w).mono fun _ _ h => ⟨by rw [h.1, may_A], h.2⟩
  clear z1 z2 z3 y1 y2 hP hG
  go_enter Tryz.func56, Tryz.ntmps56
  go_wp2_with fail
  generalize w.alloc (.cells #[.int .i64 1, .string ⟨#[103]⟩, .int .i64 2, .string ⟨#[116]⟩, .string ⟨#[120]⟩, .int .i64 1, .bool false, .slice A 0 c, .string ⟨#[]⟩, .int .i64 1099511627776, .int .i64 2, .string ⟨#[103]⟩] 27) = w1 at *
  refine (HMY.out _ _ _ w1).mono ?_; rintro e w2 ⟨rfl, hP⟩
  have hb2 : b ≤ w2.heap.size := (HG1.out.pure hP).size
  have hlt : w.heap.size < w2.heap.size := Nat.lt_of_lt_of_le HB1.out.lt hP.size
  have HW3 := Lib.hid (Wr.new b σ w2 hb2)
  have hP3 : Pure w1 (w2.alloc (.cells #[.slice none 0 0, .nilIface] 101)) := hP.alloc _
  have HP3 := Lib.hid (HP1.out.trans hP3)
  have HG3 := Lib.hid (HG1.out.pure hP3)
  have HB3 := Lib.hid (hP3.blk HB1.out fun hf => hf)
  have HNE : Hid (w.heap.size ≠ w2.heap.size) := by show _ ≠ _; omega
  have HF3 : Hid (From w2.heap.size (w2.alloc (.cells #[.slice none 0 0, .nilIface] 101)) (w2.alloc (.cells #[.slice none 0 0, .nilIface] 101))) := From.refl _ _
  have hgw : w.heap.size ≤ w2.heap.size := by omega
  have c20 := (hP.blk HB1.out fun hf => hf).cell 0
  have c21 := (hP.blk HB1.out fun hf => hf).cell 1
  have c22 := (hP.blk HB1.out fun hf => hf).cell 2
  have c23 := (hP.blk HB1.out fun hf => hf).cell 3
  have c24 := (hP.blk HB1.out fun hf => hf).cell 4
  have c25 := (hP.blk HB1.out fun hf => hf).cell 5
  have c26 := (hP.blk HB1.out fun hf => hf).cell 6
  have c27 := (hP.blk HB1.out fun hf => hf).cell 7
  have c28 := (hP.blk HB1.out fun hf => hf).cell 8
  have c29 := (hP.blk HB1.out fun hf => hf).cell 9
  have c210 := (hP.blk HB1.out fun hf => hf).cell 10
  have c211 := (hP.blk HB1.out fun hf => hf).cell 11
  simp at c20 c21 c22 c23 c24 c25 c26 c27 c28 c29 c210 c211
  clear hP hP3
  go_wp2_with fail
  clear c20 c21 c22 c23 c24 c25 c26 c27 c28 c29 c210 c211 hb2 hlt
  generalize w2.alloc (.cells #[.slice none 0 0, .nilIface] 101) = w3 at *
  generalize w2.heap.size = g at *
  obtain ⟨w30, h30⟩ : ∃ w', Hid (w' = w3) := ⟨_, rfl⟩
  rw [← h30.out] at HP3
  have HF3' : Hid (From g w30 w3) := by show From _ _ _; rw [h30.out]; exact From.refl _ _
  clear HF3 h30
  have HF3 := HF3'
  clear HF3'
  refine (w_u8 b σ g _ HZ.out.1 1 w3 HG3.out HW3.out).mono ?_; rintro e w4 ⟨rfl, h1, h2⟩
  have HW4 := Lib.hid h1
  have HG4 := Lib.hid (HG3.out.from_ h2 h1)
  have HF4 := Lib.hid (HF3.out.trans h2)
  have HB4 := Lib.hid (h2.blk HB3.out HNE.out (by decide))
  clear h1 h2
  have c40 := HB4.out.cell 0
  have c41 := HB4.out.cell 1
  have c42 := HB4.out.cell 2
  have c43 := HB4.out.cell 3
  have c44 := HB4.out.cell 4
  have c45 := HB4.out.cell 5
  have c46 := HB4.out.cell 6
  have c47 := HB4.out.cell 7
  have c48 := HB4.out.cell 8
  have c49 := HB4.out.cell 9
  have c410 := HB4.out.cell 10
  have c411 := HB4.out.cell 11
  simp at c40 c41 c42 c43 c44 c45 c46 c47 c48 c49 c410 c411
  go_wp2_with fail
  clear c40 c41 c42 c43 c44 c45 c46 c47 c48 c49 c410 c411
  refine (w_bin b σ g _ ⟨#[103]⟩ HZ.out.2.1 w4 HG4.out HW4.out).mono ?_; rintro e w5 ⟨rfl, h1, h2⟩
  have HW5 := Lib.hid h1
  have HG5 := Lib.hid (HG4.out.from_ h2 h1)
  have HF5 := Lib.hid (HF4.out.trans h2)
  have HB5 := Lib.hid (h2.blk HB4.out HNE.out (by decide))
  clear h1 h2
  have c50 := HB5.out.cell 0
  have c51 := HB5.out.cell 1
  have c52 := HB5.out.cell 2
  have c53 := HB5.out.cell 3
  have c54 := HB5.out.cell 4
  have c55 := HB5.out.cell 5
  have c56 := HB5.out.cell 6
  have c57 := HB5.out.cell 7
  have c58 := HB5.out.cell 8
  have c59 := HB5.out.cell 9
  have c510 := HB5.out.cell 10
  have c511 := HB5.out.cell 11
  simp at c50 c51 c52 c53 c54 c55 c56 c57 c58 c59 c510 c511
  go_wp2_with fail
  clear c50 c51 c52 c53 c54 c55 c56 c57 c58 c59 c510 c511
  refine (w_u32 b σ g _ HZ.out.2.2.1 2 w5 HG5.out HW5.out).mono ?_; rintro e w6 ⟨rfl, h1, h2⟩
  have HW6 := Lib.hid h1
  have HG6 := Lib.hid (HG5.out.from_ h2 h1)
  have HF6 := Lib.hid (HF5.out.trans h2)
  have HB6 := Lib.hid (h2.blk HB5.out HNE.out (by decide))
  clear h1 h2
  have c60 := HB6.out.cell 0
  have c61 := HB6.out.cell 1
  have c62 := HB6.out.cell 2
  have c63 := HB6.out.cell 3
  have c64 := HB6.out.cell 4
  have c65 := HB6.out.cell 5
  have c66 := HB6.out.cell 6
  have c67 := HB6.out.cell 7
  have c68 := HB6.out.cell 8
  have c69 := HB6.out.cell 9
  have c610 := HB6.out.cell 10
  have c611 := HB6.out.cell 11
  simp at c60 c61 c62 c63 c64 c65 c66 c67 c68 c69 c610 c611
  go_wp2_with fail
  clear c60 c61 c62 c63 c64 c65 c66 c67 c68 c69 c610 c611
  refine (s_msg_A A c b σ g _ HZ.out.2.2.2 w6 HG6.out HW6.out).mono ?_; rintro e w7 ⟨rfl, h1, h2⟩
  have HW7 := Lib.hid h1
  have HF7 := Lib.hid (HF6.out.trans h2)
  clear h1 h2
  go_wp2_with fail
  refine (w_bytes b σ g _ w7 HW7.out).mono ?_; rintro e w9 hpost
  unfold BytesPost at hpost
  obtain ⟨rfl, hpost⟩ := hpost
  rw [bytes_of put_A] at hpost
  simp only at hpost
  rw [bytes_all put_A] at hpost
  subst hpost
  go_wp2_with fail
  go_ret2
  exact ⟨rfl, HP3.out.pure_ HF7.out hgw⟩

set_option maxRecDepth 100000 in
set_option maxHeartbeats 2000000 in
theorem s_put_B (b : Nat) (σ : Nat → Addr) (w : World) (hG : Gl b σ w) :
    Calls Tryz.prog 56 #[.agg #[.int .i64 2, .string ⟨#[103]⟩, .int .i64 2, .string ⟨#[]⟩, .string ⟨#[]⟩, .int .i64 0, .bool false, .slice none 0 0, .string ⟨#[]⟩, .int .i64 0, .int .i64 0, .string ⟨#[]⟩]] w fun e w' => e = .returned (.tuple #[.string bB, .nilIface]) ∧ Pure w w' := by
  have hP : Pure w (w.alloc (.cells #[.int .i64 2, .string ⟨#[103]⟩, .int .i64 2, .string ⟨#[]⟩, .string ⟨#[]⟩, .int .i64 0, .bool false, .slice none 0 0, .string ⟨#[]⟩, .int .i64 0, .int .i64 0, .string ⟨#[]⟩] 27)) := (Keep.refl _ w).alloc _
  have HP1 := Lib.hid hP
  have HB1 : Hid (Blk (w.alloc (.cells #[.int .i64 2, .string ⟨#[103]⟩, .int .i64 2, .string ⟨#[]⟩, .string ⟨#[]⟩, .int .i64 0, .bool false, .slice none 0 0, .string ⟨#[]⟩, .int .i64 0, .int .i64 0, .string ⟨#[]⟩] 27)) w.heap.size 27 #[.int .i64 2, .string ⟨#[103]⟩, .int .i64 2, .string ⟨#[]⟩, .string ⟨#[]⟩, .int .i64 0, .bool false, .slice none 0 0, .string ⟨#[]⟩, .int .i64 0, .int .i64 0, .string ⟨#[]⟩]) := Blk.new _ _ _
  have HG1 := Lib.hid (hG.pure hP)
  have z1 := WS.num_size ws0 1 2
  have z2 := WS.bin_size (ws0.num 1 2) ⟨#[103]⟩
  have z3 := WS.num_size ((ws0.num 1 2).bin ⟨#[103]⟩) 4 2
  have y1 : (⟨#[103]⟩ : ByteArray).size = 1 := rfl
  have y2 : ws0.all.size = 0 := rfl
  have HZ : Hid (ws0.all.size ≤ 140737488351232 ∧ (ws0.num 1 2).all.size + 2 + (⟨#[103]⟩ : ByteArray).size ≤ 140737488351232 ∧ ((ws0.num 1 2).bin ⟨#[103]⟩).all.size ≤ 140737488351232 ∧ (((ws0.num 1 2).bin ⟨#[103]⟩).num 4 2).all.size ≤ 1000) := by
    refine ⟨?_, ?_, ?_, ?_⟩ <;> omega
  have HMY : Hid (∀ (A' : Option Addr) (n' c' : Nat) (w : World), Calls Tryz.prog 67 #[.agg #[.int .i64 2, .string ⟨#[103]⟩, .int .i64 2, .string ⟨#[]⟩, .string ⟨#[]⟩, .int .i64 0, .bool false, .slice A' n' c', .string ⟨#[]⟩, .int .i64 0, .int .i64 0, .string ⟨#[]⟩]] w fun e w' => e = .returned (.bool true) ∧ Pure w w') := fun A' n' c' w => (s_may oB A' n' c' w).mono fun _ _ h => ⟨by rw [h.1, may_B], h.2⟩
  clear z1 z2 z3 y1 y2 hP hG
  go_enter Tryz.func56, Tryz.ntmps56
  go_wp2_with fail
  generalize w.alloc (.cells #[.int .i64 2, .string ⟨#[103]⟩, .int .i64 2, .string ⟨#[]⟩, .string ⟨#[]⟩, .int .i64 0, .bool false, .slice none 0 0, .string ⟨#[]⟩, .int .i64 0, .int .i64 0, .string ⟨#[]⟩] 27) = w1 at *
  refine (HMY.out _ _ _ w1).mono ?_; rintro e w2 ⟨rfl, hP⟩
  have hb2 : b ≤ w2.heap.size := (HG1.out.pure hP).size
  have hlt : w.heap.size < w2.heap.size := Nat.lt_of_lt_of_le HB1.out.lt hP.size
  have HW3 := Lib.hid (Wr.new b σ w2 hb2)
  have hP3 : Pure w1 (w2.alloc (.cells #[.slice none 0 0, .nilIface] 101)) := hP.alloc _
  have HP3 := Lib.hid (HP1.out.trans hP3)
  have HG3 := Lib.hid (HG1.out.pure hP3)
  have HB3 := Lib.hid (hP3.blk HB1.out fun hf => hf)
  have HNE : Hid (w.heap.size ≠ w2.heap.size) := by show _ ≠ _; omega
  have HF3 : Hid (From w2.heap.size (w2.alloc (.cells #[.slice none 0 0, .nilIface] 101)) (w2.alloc (.cells #[.slice none 0 0, .nilIface] 101))) := From.refl _ _
  have hgw : w.heap.size ≤ w2.heap.size := by omega
  have c20 := (hP.blk HB1.out fun hf => hf).cell 0
  have c21 := (hP.blk HB1.out fun hf => hf).cell 1
  have c22 := (hP.blk HB1.out fun hf => hf).cell 2
  have c23 := (hP.blk HB1.out fun hf => hf).cell 3
  have c24 := (hP.blk HB1.out fun hf => hf).cell 4
  have c25 := (hP.blk HB1.out fun hf => hf).cell 5
  have c26 := (hP.blk HB1.out fun hf => hf).cell 6
  have c27 := (hP.blk HB1.out fun hf => hf).cell 7
  have c28 := (hP.blk HB1.out fun hf => hf).cell 8
  have c29 := (hP.blk HB1.out fun hf => hf).cell 9
  have c210 := (hP.blk HB1.out fun hf => hf).cell 10
  have c211 := (hP.blk HB1.out fun hf => hf).cell 11
  simp at c20 c21 c22 c23 c24 c25 c26 c27 c28 c29 c210 c211
  clear hP hP3
  go_wp2_with fail
  clear c20 c21 c22 c23 c24 c25 c26 c27 c28 c29 c210 c211 hb2 hlt
  generalize w2.alloc (.cells #[.slice none 0 0, .nilIface] 101) = w3 at *
  generalize w2.heap.size = g at *
  obtain ⟨w30, h30⟩ : ∃ w', Hid (w' = w3) := ⟨_, rfl⟩
  rw [← h30.out] at HP3
  have HF3' : Hid (From g w30 w3) := by show From _ _ _; rw [h30.out]; exact From.refl _ _
  clear HF3 h30
  have HF3 := HF3'
  clear HF3'
  refine (w_u8 b σ g _ HZ.out.1 2 w3 HG3.out HW3.out).mono ?_; rintro e w4 ⟨rfl, h1, h2⟩
  have HW4 := Lib.hid h1
  have HG4 := Lib.hid (HG3.out.from_ h2 h1)
  have HF4 := Lib.hid (HF3.out.trans h2)
  have HB4 := Lib.hid (h2.blk HB3.out HNE.out (by decide))
  clear h1 h2
  have c40 := HB4.out.cell 0
  have c41 := HB4.out.cell 1
  have c42 := HB4.out.cell 2
  have c43 := HB4.out.cell 3
  have c44 := HB4.out.cell 4
  have c45 := HB4.out.cell 5
  have c46 := HB4.out.cell 6
  have c47 := HB4.out.cell 7
  have c48 := HB4.out.cell 8
  have c49 := HB4.out.cell 9
  have c410 := HB4.out.cell 10
  have c411 := HB4.out.cell 11
  simp at c40 c41 c42 c43 c44 c45 c46 c47 c48 c49 c410 c411
  go_wp2_with fail
  clear c40 c41 c42 c43 c44 c45 c46 c47 c48 c49 c410 c411
  refine (w_bin b σ g _ ⟨#[103]⟩ HZ.out.2.1 w4 HG4.out HW4.out).mono ?_; rintro e w5 ⟨rfl, h1, h2⟩
  have HW5 := Lib.hid h1
  have HG5 := Lib.hid (HG4.out.from_ h2 h1)
  have HF5 := Lib.hid (HF4.out.trans h2)
  have HB5 := Lib.hid (h2.blk HB4.out HNE.out (by decide))
  clear h1 h2
  have c50 := HB5.out.cell 0
  have c51 := HB5.out.cell 1
  have c52 := HB5.out.cell 2
  have c53 := HB5.out.cell 3
  have c54 := HB5.out.cell 4
  have c55 := HB5.out.cell 5
  have c56 := HB5.out.cell 6
  have c57 := HB5.out.cell 7
  have c58 := HB5.out.cell 8
  have c59 := HB5.out.cell 9
  have c510 := HB5.out.cell 10
  have c511 := HB5.out.cell 11
  simp at c50 c51 c52 c53 c54 c55 c56 c57 c58 c59 c510 c511
  go_wp2_with fail
  clear c50 c51 c52 c53 c54 c55 c56 c57 c58 c59 c510 c511
  refine (w_u32 b σ g _ HZ.out.2.2.1 2 w5 HG5.out HW5.out).mono ?_; rintro e w6 ⟨rfl, h1, h2⟩
  have HW6 := Lib.hid h1
  have HG6 := Lib.hid (HG5.out.from_ h2 h1)
  have HF6 := Lib.hid (HF5.out.trans h2)
  have HB6 := Lib.hid (h2.blk HB5.out HNE.out (by decide))
  clear h1 h2
  have c60 := HB6.out.cell 0
  have c61 := HB6.out.cell 1
  have c62 := HB6.out.cell 2
  have c63 := HB6.out.cell 3
  have c64 := HB6.out.cell 4
  have c65 := HB6.out.cell 5
  have c66 := HB6.out.cell 6
  have c67 := HB6.out.cell 7
  have c68 := HB6.out.cell 8
  have c69 := HB6.out.cell 9
  have c610 := HB6.out.cell 10
  have c611 := HB6.out.cell 11
  simp at c60 c61 c62 c63 c64 c65 c66 c67 c68 c69 c610 c611
  go_wp2_with fail
  clear c60 c61 c62 c63 c64 c65 c66 c67 c68 c69 c610 c611
  refine (w_bytes b σ g _ w6 HW6.out).mono ?_; rintro e w9 hpost
  unfold BytesPost at hpost
  obtain ⟨rfl, hpost⟩ := hpost
  rw [bytes_of put_B] at hpost
  simp only at hpost
  rw [bytes_all put_B] at hpost
  subst hpost
  go_wp2_with fail
  go_ret2
  exact ⟨rfl, HP3.out.pure_ HF6.out hgw⟩

set_option maxRecDepth 100000 in
set_option maxHeartbeats 2000000 in
theorem s_put_C (b : Nat) (σ : Nat → Addr) (w : World) (hG : Gl b σ w) :
    Calls Tryz.prog 56 #[.agg #[.int .i64 3, .string ⟨#[47]⟩, .int .i64 2, .string ⟨#[]⟩, .string ⟨#[]⟩, .int .i64 0, .bool false, .slice none 0 0, .string ⟨#[]⟩, .int .i64 0, .int .i64 0, .string ⟨#[]⟩]] w fun e w' => e = .returned (.tuple #[.string bC, .nilIface]) ∧ Pure w w' := by
  have hP : Pure w (w.alloc (.cells #[.int .i64 3, .string ⟨#[47]⟩, .int .i64 2, .string ⟨#[]⟩, .string ⟨#[]⟩, .int .i64 0, .bool false, .slice none 0 0, .string ⟨#[]⟩, .int .i64 0, .int .i64 0, .string ⟨#[]⟩] 27)) := (Keep.refl _ w).alloc _
  have HP1 := Lib.hid hP
  have HB1 : Hid (Blk (w.alloc (.cells #[.int .i64 3, .string ⟨#[47]⟩, .int .i64 2, .string ⟨#[]⟩, .string ⟨#[]⟩, .int .i64 0, .bool false, .slice none 0 0, .string ⟨#[]⟩, .int .i64 0, .int .i64 0, .string ⟨#[]⟩] 27)) w.heap.size 27 #[.int .i64 3, .string ⟨#[47]⟩, .int .i64 2, .string ⟨#[]⟩, .string ⟨#[]⟩, .int .i64 0, .bool false, .slice none 0 0, .string ⟨#[]⟩, .int .i64 0, .int .i64 0, .string ⟨#[]⟩]) := Blk.new _ _ _
  have HG1 := Lib.hid (hG.pure hP)
  have z1 := WS.num_size ws0 1 3
  have z2 := WS.bin_size (ws0.num 1 3) ⟨#[47]⟩
  have z3 := WS.num_size ((ws0.num 1 3).bin ⟨#[47]⟩) 4 2
  have y1 : (⟨#[47]⟩ : ByteArray).size = 1 := rfl
  have y2 : ws0.all.size = 0 := rfl
  have HZ : Hid (ws0.all.size ≤ 140737488351232 ∧ (ws0.num 1 3).all.size + 2 + (⟨#[47]⟩ : ByteArray).size ≤ 140737488351232 ∧ ((ws0.num 1 3).bin ⟨#[47]⟩).all.size ≤ 140737488351232 ∧ (((ws0.num 1 3).bin ⟨#[47]⟩).num 4 2).all.size ≤ 1000) := by
    refine ⟨?_, ?_, ?_, ?_⟩ <;> omega
  have HMY : Hid (∀ (A' : Option Addr) (n' c' : Nat) (w : World), Calls Tryz.prog 67 #[.agg #[.int .i64 3, .string ⟨#[47]⟩, .int .i64 2, .string ⟨#[]⟩, .string ⟨#[]⟩, .int .i64 0, .bool false, .slice A' n' c', .string ⟨#[]⟩, .int .i64 0, .int .i64 0, .string ⟨#[]⟩]] w fun e w' => e = .returned (.bool true) ∧ Pure w w') := fun A' n' c' w => (s_may oC A' n' c' w).mono fun _ _ h => ⟨by rw [h.1, may_C], h.2⟩
  clear z1 z2 z3 y1 y2 hP hG
  go_enter Tryz.func56, Tryz.ntmps56
  go_wp2_with fail
  generalize w.alloc (.cells #[.int .i64 3, .string ⟨#[47]⟩, .int .i64 2, .string ⟨#[]⟩, .string ⟨#[]⟩, .int .i64 0, .bool false, .slice none 0 0, .string ⟨#[]⟩, .int .i64 0, .int .i64 0, .string ⟨#[]⟩] 27) = w1 at *
  refine (HMY.out _ _ _ w1).mono ?_; rintro e w2 ⟨rfl, hP⟩
  have hb2 : b ≤ w2.heap.size := (HG1.out.pure hP).size
  have hlt : w.heap.size < w2.heap.size := Nat.lt_of_lt_of_le HB1.out.lt hP.size
  have HW3 := Lib.hid (Wr.new b σ w2 hb2)
  have hP3 : Pure w1 (w2.alloc (.cells #[.slice none 0 0, .nilIface] 101)) := hP.alloc _
  have HP3 := Lib.hid (HP1.out.trans hP3)
  have HG3 := Lib.hid (HG1.out.pure hP3)
  have HB3 := Lib.hid (hP3.blk HB1.out fun hf => hf)
  have HNE : Hid (w.heap.size ≠ w2.heap.size) := by show _ ≠ _; omega
  have HF3 : Hid (From w2.heap.size (w2.alloc (.cells #[.slice none 0 0, .nilIface] 101)) (w2.alloc (.cells #[.slice none 0 0, .nilIface] 101))) := From.refl _ _
  have hgw : w.heap.size ≤ w2.heap.size := by omega
  have c20 := (hP.blk HB1.out fun hf => hf).cell 0
  have c21 := (hP.blk HB1.out fun hf => hf).cell 1
  have c22 := (hP.blk HB1.out fun hf => hf).cell 2
  have c23 := (hP.blk HB1.out fun hf => hf).cell 3
  have c24 := (hP.blk HB1.out fun hf => hf).cell 4
  have c25 := (hP.blk HB1.out fun hf => hf).cell 5
  have c26 := (hP.blk HB1.out fun hf => hf).cell 6
  have c27 := (hP.blk HB1.out fun hf => hf).cell 7
  have c28 := (hP.blk HB1.out fun hf => hf).cell 8
  have c29 := (hP.blk HB1.out fun hf => hf).cell 9
  have c210 := (hP.blk HB1.out fun hf => hf).cell 10
  have c211 := (hP.blk HB1.out fun hf => hf).cell 11
  simp at c20 c21 c22 c23 c24 c25 c26 c27 c28 c29 c210 c211
  clear hP hP3
  go_wp2_with fail
  clear c20 c21 c22 c23 c24 c25 c26 c27 c28 c29 c210 c211 hb2 hlt
  generalize w2.alloc (.cells #[.slice none 0 0, .nilIface] 101) = w3 at *
  generalize w2.heap.size = g at *
  obtain ⟨w30, h30⟩ : ∃ w', Hid (w' = w3) := ⟨_, rfl⟩
  rw [← h30.out] at HP3
  have HF3' : Hid (From g w30 w3) := by show From _ _ _; rw [h30.out]; exact From.refl _ _
  clear HF3 h30
  have HF3 := HF3'
  clear HF3'
  refine (w_u8 b σ g _ HZ.out.1 3 w3 HG3.out HW3.out).mono ?_; rintro e w4 ⟨rfl, h1, h2⟩
  have HW4 := Lib.hid h1
  have HG4 := Lib.hid (HG3.out.from_ h2 h1)
  have HF4 := Lib.hid (HF3.out.trans h2)
  have HB4 := Lib.hid (h2.blk HB3.out HNE.out (by decide))
  clear h1 h2
  have c40 := HB4.out.cell 0
  have c41 := HB4.out.cell 1
  have c42 := HB4.out.cell 2
  have c43 := HB4.out.cell 3
  have c44 := HB4.out.cell 4
  have c45 := HB4.out.cell 5
  have c46 := HB4.out.cell 6
  have c47 := HB4.out.cell 7
  have c48 := HB4.out.cell 8
  have c49 := HB4.out.cell 9
  have c410 := HB4.out.cell 10
  have c411 := HB4.out.cell 11
  simp at c40 c41 c42 c43 c44 c45 c46 c47 c48 c49 c410 c411
  go_wp2_with fail
  clear c40 c41 c42 c43 c44 c45 c46 c47 c48 c49 c410 c411
  refine (w_bin b σ g _ ⟨#[47]⟩ HZ.out.2.1 w4 HG4.out HW4.out).mono ?_; rintro e w5 ⟨rfl, h1, h2⟩
  have HW5 := Lib.hid h1
  have HG5 := Lib.hid (HG4.out.from_ h2 h1)
  have HF5 := Lib.hid (HF4.out.trans h2)
  have HB5 := Lib.hid (h2.blk HB4.out HNE.out (by decide))
  clear h1 h2
  have c50 := HB5.out.cell 0
  have c51 := HB5.out.cell 1
  have c52 := HB5.out.cell 2
  have c53 := HB5.out.cell 3
  have c54 := HB5.out.cell 4
  have c55 := HB5.out.cell 5
  have c56 := HB5.out.cell 6
  have c57 := HB5.out.cell 7
  have c58 := HB5.out.cell 8
  have c59 := HB5.out.cell 9
  have c510 := HB5.out.cell 10
  have c511 := HB5.out.cell 11
  simp at c50 c51 c52 c53 c54 c55 c56 c57 c58 c59 c510 c511
  go_wp2_with fail
  clear c50 c51 c52 c53 c54 c55 c56 c57 c58 c59 c510 c511
  refine (w_u32 b σ g _ HZ.out.2.2.1 2 w5 HG5.out HW5.out).mono ?_; rintro e w6 ⟨rfl, h1, h2⟩
  have HW6 := Lib.hid h1
  have HG6 := Lib.hid (HG5.out.from_ h2 h1)
  have HF6 := Lib.hid (HF5.out.trans h2)
  have HB6 := Lib.hid (h2.blk HB5.out HNE.out (by decide))
  clear h1 h2
  have c60 := HB6.out.cell 0
  have c61 := HB6.out.cell 1
  have c62 := HB6.out.cell 2
  have c63 := HB6.out.cell 3
  have c64 := HB6.out.cell 4
  have c65 := HB6.out.cell 5
  have c66 := HB6.out.cell 6
  have c67 := HB6.out.cell 7
  have c68 := HB6.out.cell 8
  have c69 := HB6.out.cell 9
  have c610 := HB6.out.cell 10
  have c611 := HB6.out.cell 11
  simp at c60 c61 c62 c63 c64 c65 c66 c67 c68 c69 c610 c611
  go_wp2_with fail
  clear c60 c61 c62 c63 c64 c65 c66 c67 c68 c69 c610 c611
  refine (w_bytes b σ g _ w6 HW6.out).mono ?_; rintro e w9 hpost
  unfold BytesPost at hpost
  obtain ⟨rfl, hpost⟩ := hpost
  rw [bytes_of put_C] at hpost
  simp only at hpost
  rw [bytes_all put_C] at hpost
  subst hpost
  go_wp2_with fail
  go_ret2
  exact ⟨rfl, HP3.out.pure_ HF6.out hgw⟩
end Go.Proofs.YthokkjdolcfhcaaGreatDoor

set_option linter.unusedVariables false
namespace Go.Proofs.YthokkjdolcfhcaaGreatDoor
open Go.RowKit

set_option maxRecDepth 100000 in
theorem rp_idx_nil (g : Nat) (w : World) :
    Calls Tryz.prog 131 #[.slice none 0 0, .func (Fn.func 132) #[] #[.pointer (some ⟨g, 0, none⟩)]] w fun e w' => e = .returned (.int .i64 (-1)) ∧ Pure w w' := by
  go_enter Tryz.func131, Tryz.ntmps131
  go_wp2_with fail
  go_loop [8] (fun i => i = .int .i64 0) (fun i => 0)
  case atStart => rfl
  case round =>
    subst hrel
    go_wp2_with fail
    go_ret
    exact ⟨rfl, Keep.refl _ _⟩

set_option maxRecDepth 100000 in
theorem rp_same (m : SMsg) (gr : ByteArray) (sq : Int) (A : Option Addr) (n c : Nat) (g : Nat) (w : World) (h1 : w.cell? ⟨g, 1, none⟩ = some (.string gr)) (h2 : w.cell? ⟨g, 2, none⟩ = some (.int .i64 sq)) (he1 : m.group = gr) (he2 : m.seq = sq) :
    Calls Tryz.prog 132 #[.agg (msgCells m (.slice A n c)), .pointer (some ⟨g, 0, none⟩)] w fun e w' => e = .returned (.bool true) ∧ Pure w w' := by
  subst he1 he2
  obtain ⟨mt, mp, mq, mr, ml, mf, mu, ms, mg⟩ := m
  simp only [msgCells] at *
  have hlt := World.block_lt_of_cell? w _ h1
  simp only at hlt
  go_enter Tryz.func132, Tryz.ntmps132
  go_wp2_with fail
  go_ret
  exact ⟨rfl, (Keep.refl _ _).alloc _⟩

set_option maxRecDepth 100000 in
set_option maxHeartbeats 1000000 in
theorem rp_idx_one (g h c : Nat) (m : SMsg) (A : Option Addr) (n' c' : Nat) (w : World) (h1 : w.cell? ⟨g, 1, none⟩ = some (.string m.group)) (h2 : w.cell? ⟨g, 2, none⟩ = some (.int .i64 m.seq))
    (hc : ∀ j u, (msgCells m (.slice A n' c'))[j]? = some u → w.cell? ⟨h, j, none⟩ = some u) :
    Calls Tryz.prog 131 #[.slice (some ⟨h, 0, none⟩) 1 c, .func (Fn.func 132) #[] #[.pointer (some ⟨g, 0, none⟩)]] w fun e w' => e = .returned (.int .i64 0) ∧ Pure w w' := by
  have HS := Lib.hid (rp_same m m.group m.seq A n' c' g w h1 h2 rfl rfl)
  obtain ⟨mt, mp, mq, mr, ml, mf, mu, ms, mg⟩ := m
  simp only [msgCells] at *
  have d0 := hc 0 _ rfl
  have d1 := hc 1 _ rfl
  have d2 := hc 2 _ rfl
  have d3 := hc 3 _ rfl
  have d4 := hc 4 _ rfl
  have d5 := hc 5 _ rfl
  have d6 := hc 6 _ rfl
  have d7 := hc 7 _ rfl
  have d8 := hc 8 _ rfl
  clear hc h1 h2
  go_enter Tryz.func131, Tryz.ntmps131
  go_wp2_with fail
  go_loopw [8] (fun i wr => i = .int .i64 0 ∧ Hid (wr = w)) (fun i _ => 0)
  case atStart => exact ⟨rfl, rfl⟩
  case round =>
    obtain ⟨rfl, hw⟩ := hrel
    obtain rfl := hw.out
    go_wp2_with fail
    refine HS.out.mono ?_; rintro e w2 ⟨rfl, hP⟩
    have HP := Lib.hid hP
    clear hP
    go_wp2_with fail
    go_ret
    exact ⟨rfl, HP.out⟩

def zCells : List Value := [.string ⟨#[]⟩, .string ⟨#[]⟩, .int .i64 0, .bool false, .slice none 0 0, .string ⟨#[]⟩, .int .i64 0, .int .i64 0, .string ⟨#[]⟩]
theorem rp_zero (w : World) : (zeroValue 25).run Tryz.prog w = .ok (.agg #[.string ⟨#[]⟩, .string ⟨#[]⟩, .int .i64 0, .bool false, .slice none 0 0, .string ⟨#[]⟩, .int .i64 0, .int .i64 0, .string ⟨#[]⟩]) w := by kernel_rfl
theorem rp_clear (w : World) (h c : Nat) (cs : Array Value) (hb : Blk w h 25 cs) (hcs : 9 ≤ cs.size) (ty : TypeId) :
    (Builtin.clear_ #[71] ty #[.slice (some ⟨h, 0, none⟩) 1 c]).run Tryz.prog w = .ok (.tuple #[]) (w.setCells h 0 zCells) := by
  have hz : (Builtin.zeroCells (Value.agg #[.string ⟨#[]⟩, .string ⟨#[]⟩, .int .i64 0, .bool false, .slice none 0 0, .string ⟨#[]⟩, .int .i64 0, .int .i64 0, .string ⟨#[]⟩]).cells 1).toList = zCells := by kernel_rfl
  have hst := run_storeCells_cells (P := Tryz.prog) h 0 zCells 0 w (fun j hj => by
    rw [show 0 + 0 + j = j by omega, hb.cell j]
    have : j < 9 := hj
    rw [Array.getElem?_eq_getElem (by omega)]
    rfl) (fun j hj => hb.frozen _) (by intro v hv; simp [zCells] at hv; (rcases hv with rfl | rfl | rfl | rfl | rfl | rfl | rfl) <;> rfl)
  simp only [Nat.add_zero] at hst
  simp [Builtin.clear_, run_underlying Tryz.underlying71, rp_zero, hz, hst]
theorem Blk.drew_ {w : World} {g : Nat} {t : TypeId} {cs : Array Value} (h : Blk w g t cs) : Blk w.drew g t cs := h
theorem Keep.setCells {S : Nat → Prop} {w0 : World} {b : Nat} (hb : S b ∨ w0.heap.size ≤ b) : ∀ (vs : List Value) (o : Nat) (w : World), Keep S w0 w → Keep S w0 (w.setCells b o vs)
  | [], _, _, h => h
  | v :: r, o, w, h => Keep.setCells hb r (o + 1) (w.setCell ⟨b, o, none⟩ v) (h.setCell hb v)

set_option maxRecDepth 100000 in
set_option maxHeartbeats 1000000 in
theorem rp_del (h c : Nat) (cs : Array Value) (w : World) (hb : w.heap[h]? = some (.cells cs 25 (0, 0))) (hc1 : 1 ≤ c) (hcs : 9 ≤ cs.size) :
    Calls Tryz.prog 133 #[.slice (some ⟨h, 0, none⟩) 1 c, .int .i64 0, .int .i64 1] w fun e w' => (∃ A c, e = .returned (.slice A 0 c)) ∧ Only h w w' := by
  have HB : Hid (Blk w h 25 cs) := hb
  clear hb
  have hcl := rp_clear w.drew h c cs HB.out.drew_ hcs 0
  have hcl1 := rp_clear w.drew h 1 cs HB.out.drew_ hcs 0
  by_cases hc : c = 1
  all_goals
    go_enter Tryz.func133, Tryz.ntmps133
    go_wp2_with fail
    go_region
    all_goals
      go_wp2_with fail
      go_ret
      exact ⟨⟨_, _, rfl⟩, Keep.setCells (S := fun k => k = h) (.inl rfl) _ _ _ (Keep.refl _ w).drew⟩
end Go.Proofs.YthokkjdolcfhcaaGreatDoor

set_option linter.unusedVariables false
namespace Go.Proofs.YthokkjdolcfhcaaGreatDoor
open Go.RowKit

theorem info_msg : (Tryz.prog.info? 25).map (fun i => (i.zero, i.size, i.bytes)) = some (some (.agg #[.string ⟨#[]⟩, .string ⟨#[]⟩, .int .i64 0, .bool false, .slice none 0 0, .string ⟨#[]⟩, .int .i64 0, .int .i64 0, .string ⟨#[]⟩]), 9, 120) := by kernel_rfl
def TkA (w : World) (e : Ending) (w' : World) : Prop := (∃ A c, e = .returned (.tuple #[.agg #[.int .i64 1, .string ⟨#[103]⟩, .int .i64 2, .string ⟨#[116]⟩, .string ⟨#[120]⟩, .int .i64 1, .bool false, .slice A 0 c, .string ⟨#[]⟩, .int .i64 1099511627776, .int .i64 2, .string ⟨#[103]⟩], .nilIface])) ∧ Pure w w'
def TkB (w : World) (e : Ending) (w' : World) : Prop := (∃ A c, e = .returned (.tuple #[.agg #[.int .i64 2, .string ⟨#[103]⟩, .int .i64 2, .string ⟨#[]⟩, .string ⟨#[]⟩, .int .i64 0, .bool false, .slice A 0 c, .string ⟨#[]⟩, .int .i64 0, .int .i64 0, .string ⟨#[]⟩], .nilIface])) ∧ Pure w w'
def TkX (w : World) (e : Ending) (w' : World) : Prop := (∃ g, e = .returned (.tuple #[.agg #[.int .i64 0, .string ⟨#[]⟩, .int .i64 0, .string ⟨#[]⟩, .string ⟨#[]⟩, .int .i64 0, .bool false, .slice none 0 0, .string ⟨#[]⟩, .int .i64 0, .int .i64 0, .string ⟨#[]⟩], .iface 148 (.pointer (some ⟨g, 0, none⟩))])) ∧ Pure w w'
theorem s_take_A (b : Nat) (σ : Nat → Addr) (w : World) (hG : Gl b σ w) : Calls Tryz.prog 15 #[.string bA] w (TkA w) := by
  refine (s_take b σ bA w hG (by decide)).mono ?_
  rintro e w' ⟨h1, h2⟩
  rw [take_A] at h2
  obtain ⟨A, c, rfl, _⟩ := h2
  exact ⟨⟨A, c, rfl⟩, h1⟩
theorem s_take_B (b : Nat) (σ : Nat → Addr) (w : World) (hG : Gl b σ w) : Calls Tryz.prog 15 #[.string bB] w (TkB w) := by
  refine (s_take b σ bB w hG (by decide)).mono ?_
  rintro e w' ⟨h1, h2⟩
  rw [take_B] at h2
  obtain ⟨A, c, rfl, _⟩ := h2
  exact ⟨⟨A, c, rfl⟩, h1⟩
theorem s_take_X (b : Nat) (σ : Nat → Addr) (w : World) (hG : Gl b σ w) : Calls Tryz.prog 15 #[.string bBad] w (TkX w) := by
  refine (s_take b σ bBad w hG (by decide)).mono ?_
  rintro e w' ⟨h1, h2⟩
  rw [take_Bad] at h2
  obtain ⟨v, rfl, _, g, rfl, _⟩ := h2
  exact ⟨⟨g, rfl⟩, h1⟩
/-- what is in the queues behind so many records -/
def RpRel (w : World) (gone : Bool) (out last i : Value) (wr : World) : Prop :=
  Pure w wr ∧ ((i = .int .i64 0 ∧ out = .slice none 0 0 ∧ last = .int .i64 0) ∨
    (i = .int .i64 1 ∧ last = .int .i64 2 ∧ ∃ A c A' c', out = .slice A 1 c ∧ wr.ownsRow w.heap.size 25 9 (.slice A 1 c) 1 (msgCells mA (.slice A' 0 c')).toList) ∨
    (i = .int .i64 2 ∧ last = .int .i64 2 ∧ ∃ A c A' c', if gone then out = .slice A 0 c else out = .slice A 1 c ∧ wr.ownsRow w.heap.size 25 9 (.slice A 1 c) 1 (msgCells mA (.slice A' 0 c')).toList))
def RpPost (w : World) (gone : Bool) (e : Ending) (w' : World) : Prop :=
  Pure w w' ∧ ∃ A c A' c', if gone then e = .returned (.tuple #[.slice A 0 c, .int .i64 2]) else e = .returned (.tuple #[.slice A 1 c, .int .i64 2]) ∧ w'.ownsRow w.heap.size 25 9 (.slice A 1 c) 1 (msgCells mA (.slice A' 0 c')).toList

set_option maxRecDepth 100000 in
set_option maxHeartbeats 2000000 in
theorem s_replay_bad (b : Nat) (σ : Nat → Addr) (h : Nat) (w : World) (hG : Gl b σ w) (h0 : w.cell? ⟨h, 0, none⟩ = some (.string bA)) (h1 : w.cell? ⟨h, 1, none⟩ = some (.string bBad)) :
    Calls Tryz.prog 57 #[.slice (some ⟨h, 0, none⟩) 2 2] w (RpPost w false) := by
  obtain ⟨i0, hi0, hz0, hz1, hz2⟩ := info_parts info_msg
  have HI0 : Hid (Tryz.prog.info? 25 = some i0) := hi0
  have HI1 := Lib.hid hz0
  have HI2 := Lib.hid hz1
  have HI3 := Lib.hid hz2
  have hlt := World.block_lt_of_cell? w _ h0
  simp only at hlt
  have HG := Lib.hid hG
  have HC0 := Lib.hid h0
  have HC1 := Lib.hid h1
  have hb0 := hG.size
  clear hi0 hz0 hz1 hz2 hG h0 h1
  generalize hba : bA = bA' at *
  have HBA := Lib.hid hba
  clear hba
  generalize hbs : bBad = bS at *
  have HBS := Lib.hid hbs
  clear hbs
  go_enter Tryz.func57, Tryz.ntmps57
  go_wp2_with fail
  go_loopw [4, 5, 13] (fun out last i wr => Hid (RpRel w false out last i wr)) (fun _ _ i _ => 2 - (intOf i).toNat)
  case atStart => exact ⟨Keep.refl _ _, .inl ⟨rfl, rfl, rfl⟩⟩
  case round =>
    obtain ⟨hP, hrel⟩ := hrel
    have HP := Lib.hid hP
    have HGr := Lib.hid (HG.out.pure hP)
    have g0 : wr.cell? ⟨h, 0, none⟩ = some (.string bA') := (hP.cell (p := ⟨h, 0, none⟩) hlt (fun hf => hf)).trans HC0.out
    have g1 : wr.cell? ⟨h, 1, none⟩ = some (.string bS) := (hP.cell (p := ⟨h, 1, none⟩) hlt (fun hf => hf)).trans HC1.out
    have hsz := hP.size
    clear hP
    rcases hrel with ⟨rfl, rfl, rfl⟩ | ⟨rfl, rfl, A, c, A', c', rfl, ho⟩ | ⟨rfl, rfl, A, c, A', c', hx⟩
    · go_wp2_with fail
      rw [← HBA.out]
      refine (s_take_A b σ wr HGr.out).mono ?_; rintro e w1 ⟨⟨A', c', rfl⟩, hP1⟩
      have HP1 := Lib.hid (HP.out.trans hP1)
      have hPx : Pure w (w1.alloc (.cells #[.int .i64 1, .string ⟨#[103]⟩, .int .i64 2, .string ⟨#[116]⟩, .string ⟨#[120]⟩, .int .i64 1, .bool false, .slice A' 0 c', .string ⟨#[]⟩, .int .i64 1099511627776, .int .i64 2, .string ⟨#[103]⟩] 27)) := HP1.out.alloc _
      have HP2 := Lib.hid hPx
      have HB2 : Hid (Blk (w1.alloc (.cells #[.int .i64 1, .string ⟨#[103]⟩, .int .i64 2, .string ⟨#[116]⟩, .string ⟨#[120]⟩, .int .i64 1, .bool false, .slice A' 0 c', .string ⟨#[]⟩, .int .i64 1099511627776, .int .i64 2, .string ⟨#[103]⟩] 27)) w1.heap.size 27 #[.int .i64 1, .string ⟨#[103]⟩, .int .i64 2, .string ⟨#[116]⟩, .string ⟨#[120]⟩, .int .i64 1, .bool false, .slice A' 0 c', .string ⟨#[]⟩, .int .i64 1099511627776, .int .i64 2, .string ⟨#[103]⟩]) := Blk.new _ _ _
      clear hP1 hPx
      go_wp2_with fail
      generalize w1.alloc (.cells #[.int .i64 1, .string ⟨#[103]⟩, .int .i64 2, .string ⟨#[116]⟩, .string ⟨#[120]⟩, .int .i64 1, .bool false, .slice A' 0 c', .string ⟨#[]⟩, .int .i64 1099511627776, .int .i64 2, .string ⟨#[103]⟩] 27) = w2 at *
      generalize w1.heap.size = ho at *
      refine (rp_idx_nil ho w2).mono ?_; rintro e w3 ⟨rfl, hP3⟩
      have HP3 := Lib.hid (HP2.out.trans hP3)
      have HB3 := Lib.hid (hP3.blk HB2.out fun hf => hf)
      clear hP3
      have d0 := HB3.out.cell 0
      have d1 := HB3.out.cell 1
      have d2 := HB3.out.cell 2
      have d3 := HB3.out.cell 3
      have d4 := HB3.out.cell 4
      have d5 := HB3.out.cell 5
      have d6 := HB3.out.cell 6
      have d7 := HB3.out.cell 7
      have d8 := HB3.out.cell 8
      have d9 := HB3.out.cell 9
      have d10 := HB3.out.cell 10
      have d11 := HB3.out.cell 11
      have fd := HB3.out.frozen
      have ld := HB3.out.lt
      simp at d0 d1 d2 d3 d4 d5 d6 d7 d8 d9 d10 d11
      have hbs : w.heap.size ≤ (w3.alloc (.cells #[.string ⟨#[116]⟩, .string ⟨#[120]⟩, .int .i64 1, .bool false, .slice A' 0 c', .string ⟨#[]⟩, .int .i64 1099511627776, .int .i64 2, .string ⟨#[103]⟩] 25)).heap.size := by have := HP3.out.size; simp; omega
      have HBS3 := Lib.hid hbs
      clear hbs
      go_wp2_with (at_builtin; refine wpList_append_own _ rfl (.tmp 39) (.tmp 42) 71 rfl w.heap.size 25 i0 (.agg #[.string ⟨#[]⟩, .string ⟨#[]⟩, .int .i64 0, .bool false, .slice none 0 0, .string ⟨#[]⟩, .int .i64 0, .int .i64 0, .string ⟨#[]⟩]) 9 120 Tryz.underlying71 HI0.out HI1.out HI2.out HI3.out rfl (by decide) (.slice none 0 0) 0 [] rfl (World.ownsRow_nil _ _ _ _) ⟨w3.heap.size, 0, none⟩ 1 1 (msgCells mA (.slice A' 0 c')).toList rfl rfl ?news ?one ?mx ?bb ?bs ?k)
      case mx => unfold maxLen; omega
      case bb => omega
      case bs => have h := HBS3.out; simpa using h
      case news =>
        intro j u hu
        have h := (Blk.new w3 25 #[.string ⟨#[116]⟩, .string ⟨#[120]⟩, .int .i64 1, .bool false, .slice A' 0 c', .string ⟨#[]⟩, .int .i64 1099511627776, .int .i64 2, .string ⟨#[103]⟩]).cell j
        rw [Addr.add_lit]
        simp only [Nat.zero_add]
        rw [h]
        simpa [msgCells, mA, noBytes] using hu
      case one => intro u hu; simp [msgCells, mA] at hu; (rcases hu with rfl | rfl | rfl | rfl | rfl | rfl | rfl | rfl | rfl) <;> rfl
      case k =>
        intro v' w5 hown5 hgrow _
        go_wp2_with fail
        have K5 : Pure w w5 := Keep.grown (HP3.out.alloc (.cells #[.string ⟨#[116]⟩, .string ⟨#[120]⟩, .int .i64 1, .bool false, .slice A' 0 c', .string ⟨#[]⟩, .int .i64 1099511627776, .int .i64 2, .string ⟨#[103]⟩] 25)) hgrow (fun k hk => by cases hk)
        obtain ⟨A, c, rfl⟩ := own_shape hown5
        refine ⟨⟨K5, .inr (.inl ⟨rfl, rfl, A, c, A', c', rfl, by simpa using hown5⟩)⟩, by simp [intOf]⟩
    · have HO := Lib.hid ho
      clear ho
      go_wp2_with fail
      rw [← HBS.out]
      refine (s_take_X b σ wr HGr.out).mono ?_; rintro e w1 ⟨⟨g', rfl⟩, hP1⟩
      have hPx : Pure wr (w1.alloc (.cells #[.int .i64 0, .string ⟨#[]⟩, .int .i64 0, .string ⟨#[]⟩, .string ⟨#[]⟩, .int .i64 0, .bool false, .slice none 0 0, .string ⟨#[]⟩, .int .i64 0, .int .i64 0, .string ⟨#[]⟩] 27)) := hP1.alloc _
      have HP2 := Lib.hid (HP.out.trans hPx)
      have HO2 := Lib.hid (hPx.own HO.out fun _ _ hf => hf)
      clear hP1 hPx
      go_wp2_with fail
      exact ⟨⟨HP2.out, .inr (.inr ⟨rfl, rfl, A, c, A', c', rfl, HO2.out⟩)⟩, by simp [intOf]⟩
    · simp only [Bool.false_eq_true, if_false] at hx
      obtain ⟨rfl, ho⟩ := hx
      have HO := Lib.hid ho
      clear ho
      go_wp2_with fail
      go_ret2
      exact ⟨HP.out, A, c, A', c', rfl, HO.out⟩

set_option maxRecDepth 100000 in
set_option maxHeartbeats 2000000 in
theorem s_replay_gone (b : Nat) (σ : Nat → Addr) (h : Nat) (w : World) (hG : Gl b σ w) (h0 : w.cell? ⟨h, 0, none⟩ = some (.string bA)) (h1 : w.cell? ⟨h, 1, none⟩ = some (.string bB)) :
    Calls Tryz.prog 57 #[.slice (some ⟨h, 0, none⟩) 2 2] w (RpPost w true) := by
  obtain ⟨i0, hi0, hz0, hz1, hz2⟩ := info_parts info_msg
  have HI0 : Hid (Tryz.prog.info? 25 = some i0) := hi0
  have HI1 := Lib.hid hz0
  have HI2 := Lib.hid hz1
  have HI3 := Lib.hid hz2
  have hlt := World.block_lt_of_cell? w _ h0
  simp only at hlt
  have HG := Lib.hid hG
  have HC0 := Lib.hid h0
  have HC1 := Lib.hid h1
  have hb0 := hG.size
  clear hi0 hz0 hz1 hz2 hG h0 h1
  generalize hba : bA = bA' at *
  have HBA := Lib.hid hba
  clear hba
  generalize hbs : bB = bS at *
  have HBS := Lib.hid hbs
  clear hbs
  go_enter Tryz.func57, Tryz.ntmps57
  go_wp2_with fail
  go_loopw [4, 5, 13] (fun out last i wr => Hid (RpRel w true out last i wr)) (fun _ _ i _ => 2 - (intOf i).toNat)
  case atStart => exact ⟨Keep.refl _ _, .inl ⟨rfl, rfl, rfl⟩⟩
  case round =>
    obtain ⟨hP, hrel⟩ := hrel
    have HP := Lib.hid hP
    have HGr := Lib.hid (HG.out.pure hP)
    have g0 : wr.cell? ⟨h, 0, none⟩ = some (.string bA') := (hP.cell (p := ⟨h, 0, none⟩) hlt (fun hf => hf)).trans HC0.out
    have g1 : wr.cell? ⟨h, 1, none⟩ = some (.string bS) := (hP.cell (p := ⟨h, 1, none⟩) hlt (fun hf => hf)).trans HC1.out
    have hsz := hP.size
    clear hP
    rcases hrel with ⟨rfl, rfl, rfl⟩ | ⟨rfl, rfl, A, c, A', c', rfl, ho⟩ | ⟨rfl, rfl, A, c, A', c', hx⟩
    · go_wp2_with fail
      rw [← HBA.out]
      refine (s_take_A b σ wr HGr.out).mono ?_; rintro e w1 ⟨⟨A', c', rfl⟩, hP1⟩
      have HP1 := Lib.hid (HP.out.trans hP1)
      have hPx : Pure w (w1.alloc (.cells #[.int .i64 1, .string ⟨#[103]⟩, .int .i64 2, .string ⟨#[116]⟩, .string ⟨#[120]⟩, .int .i64 1, .bool false, .slice A' 0 c', .string ⟨#[]⟩, .int .i64 1099511627776, .int .i64 2, .string ⟨#[103]⟩] 27)) := HP1.out.alloc _
      have HP2 := Lib.hid hPx
      have HB2 : Hid (Blk (w1.alloc (.cells #[.int .i64 1, .string ⟨#[103]⟩, .int .i64 2, .string ⟨#[116]⟩, .string ⟨#[120]⟩, .int .i64 1, .bool false, .slice A' 0 c', .string ⟨#[]⟩, .int .i64 1099511627776, .int .i64 2, .string ⟨#[103]⟩] 27)) w1.heap.size 27 #[.int .i64 1, .string ⟨#[103]⟩, .int .i64 2, .string ⟨#[116]⟩, .string ⟨#[120]⟩, .int .i64 1, .bool false, .slice A' 0 c', .string ⟨#[]⟩, .int .i64 1099511627776, .int .i64 2, .string ⟨#[103]⟩]) := Blk.new _ _ _
      clear hP1 hPx
      go_wp2_with fail
      generalize w1.alloc (.cells #[.int .i64 1, .string ⟨#[103]⟩, .int .i64 2, .string ⟨#[116]⟩, .string ⟨#[120]⟩, .int .i64 1, .bool false, .slice A' 0 c', .string ⟨#[]⟩, .int .i64 1099511627776, .int .i64 2, .string ⟨#[103]⟩] 27) = w2 at *
      generalize w1.heap.size = ho at *
      refine (rp_idx_nil ho w2).mono ?_; rintro e w3 ⟨rfl, hP3⟩
      have HP3 := Lib.hid (HP2.out.trans hP3)
      have HB3 := Lib.hid (hP3.blk HB2.out fun hf => hf)
      clear hP3
      have d0 := HB3.out.cell 0
      have d1 := HB3.out.cell 1
      have d2 := HB3.out.cell 2
      have d3 := HB3.out.cell 3
      have d4 := HB3.out.cell 4
      have d5 := HB3.out.cell 5
      have d6 := HB3.out.cell 6
      have d7 := HB3.out.cell 7
      have d8 := HB3.out.cell 8
      have d9 := HB3.out.cell 9
      have d10 := HB3.out.cell 10
      have d11 := HB3.out.cell 11
      have fd := HB3.out.frozen
      have ld := HB3.out.lt
      simp at d0 d1 d2 d3 d4 d5 d6 d7 d8 d9 d10 d11
      have hbs : w.heap.size ≤ (w3.alloc (.cells #[.string ⟨#[116]⟩, .string ⟨#[120]⟩, .int .i64 1, .bool false, .slice A' 0 c', .string ⟨#[]⟩, .int .i64 1099511627776, .int .i64 2, .string ⟨#[103]⟩] 25)).heap.size := by have := HP3.out.size; simp; omega
      have HBS3 := Lib.hid hbs
      clear hbs
      go_wp2_with (at_builtin; refine wpList_append_own _ rfl (.tmp 39) (.tmp 42) 71 rfl w.heap.size 25 i0 (.agg #[.string ⟨#[]⟩, .string ⟨#[]⟩, .int .i64 0, .bool false, .slice none 0 0, .string ⟨#[]⟩, .int .i64 0, .int .i64 0, .string ⟨#[]⟩]) 9 120 Tryz.underlying71 HI0.out HI1.out HI2.out HI3.out rfl (by decide) (.slice none 0 0) 0 [] rfl (World.ownsRow_nil _ _ _ _) ⟨w3.heap.size, 0, none⟩ 1 1 (msgCells mA (.slice A' 0 c')).toList rfl rfl ?news ?one ?mx ?bb ?bs ?k)
      case mx => unfold maxLen; omega
      case bb => omega
      case bs => have h := HBS3.out; simpa using h
      case news =>
        intro j u hu
        have h := (Blk.new w3 25 #[.string ⟨#[116]⟩, .string ⟨#[120]⟩, .int .i64 1, .bool false, .slice A' 0 c', .string ⟨#[]⟩, .int .i64 1099511627776, .int .i64 2, .string ⟨#[103]⟩]).cell j
        rw [Addr.add_lit]
        simp only [Nat.zero_add]
        rw [h]
        simpa [msgCells, mA, noBytes] using hu
      case one => intro u hu; simp [msgCells, mA] at hu; (rcases hu with rfl | rfl | rfl | rfl | rfl | rfl | rfl | rfl | rfl) <;> rfl
      case k =>
        intro v' w5 hown5 hgrow _
        go_wp2_with fail
        have K5 : Pure w w5 := Keep.grown (HP3.out.alloc (.cells #[.string ⟨#[116]⟩, .string ⟨#[120]⟩, .int .i64 1, .bool false, .slice A' 0 c', .string ⟨#[]⟩, .int .i64 1099511627776, .int .i64 2, .string ⟨#[103]⟩] 25)) hgrow (fun k hk => by cases hk)
        obtain ⟨A, c, rfl⟩ := own_shape hown5
        refine ⟨⟨K5, .inr (.inl ⟨rfl, rfl, A, c, A', c', rfl, by simpa using hown5⟩)⟩, by simp [intOf]⟩
    · obtain ⟨q, cap, cur, hv, hbq, hh, hnc, _, hcs, htk⟩ : ∃ q cap cur, (Value.slice A 1 c) = .slice (some ⟨q, 0, none⟩) 1 cap ∧ w.heap.size ≤ q ∧ wr.heap[q]? = some (.cells cur 25 (0, 0)) ∧ 1 ≤ cap ∧ cap ≤ maxLen ∧ cur.size = cap * 9 ∧ cur.toList.take (1 * 9) = (msgCells mA (.slice A' 0 c')).toList := by
        rcases ho.2 with ⟨_, h0⟩ | h
        · cases h0
        · exact h
      injection hv with hv1 hv2 hv3
      subst hv1 hv3
      have HO := Lib.hid ho
      have HH : Hid (Blk wr q 25 cur) := hh
      clear ho hh htk hv2
      go_wp2_with fail
      rw [← HBS.out]
      refine (s_take_B b σ wr HGr.out).mono ?_; rintro e w1 ⟨⟨A2, c2, rfl⟩, hP1⟩
      have hPx : Pure wr (w1.alloc (.cells #[.int .i64 2, .string ⟨#[103]⟩, .int .i64 2, .string ⟨#[]⟩, .string ⟨#[]⟩, .int .i64 0, .bool false, .slice A2 0 c2, .string ⟨#[]⟩, .int .i64 0, .int .i64 0, .string ⟨#[]⟩] 27)) := hP1.alloc _
      have HP2 := Lib.hid (HP.out.trans hPx)
      have HO2 := Lib.hid (hPx.own HO.out fun _ _ hf => hf)
      have HH2 := Lib.hid (hPx.blk HH.out fun hf => hf)
      have HB2 : Hid (Blk (w1.alloc (.cells #[.int .i64 2, .string ⟨#[103]⟩, .int .i64 2, .string ⟨#[]⟩, .string ⟨#[]⟩, .int .i64 0, .bool false, .slice A2 0 c2, .string ⟨#[]⟩, .int .i64 0, .int .i64 0, .string ⟨#[]⟩] 27)) w1.heap.size 27 #[.int .i64 2, .string ⟨#[103]⟩, .int .i64 2, .string ⟨#[]⟩, .string ⟨#[]⟩, .int .i64 0, .bool false, .slice A2 0 c2, .string ⟨#[]⟩, .int .i64 0, .int .i64 0, .string ⟨#[]⟩]) := Blk.new _ _ _
      clear hP1 hPx
      have hmax : max (2 : Int) 2 = 2 := by decide
      go_wp2_with fail
      generalize w1.alloc (.cells #[.int .i64 2, .string ⟨#[103]⟩, .int .i64 2, .string ⟨#[]⟩, .string ⟨#[]⟩, .int .i64 0, .bool false, .slice A2 0 c2, .string ⟨#[]⟩, .int .i64 0, .int .i64 0, .string ⟨#[]⟩] 27) = w2 at *
      generalize w1.heap.size = ho at *
      refine (rp_idx_one ho q c mA A' 0 c' w2 ((HB2.out.cell 1).trans rfl) ((HB2.out.cell 2).trans rfl) (fun j u hu => ?_)).mono ?_
      · have hcc := HO2.out.cells (g := q) rfl j u (by simpa using hu)
        rw [Addr.add_lit] at hcc
        simpa using hcc
      rintro e w3 ⟨rfl, hP3⟩
      have HP3 := Lib.hid (HP2.out.trans hP3)
      have HB3 := Lib.hid (hP3.blk HB2.out fun hf => hf)
      have HH3 := Lib.hid (hP3.blk HH2.out fun hf => hf)
      clear hP3
      have d0 := HB3.out.cell 0
      have d1 := HB3.out.cell 1
      have d2 := HB3.out.cell 2
      have d3 := HB3.out.cell 3
      have d4 := HB3.out.cell 4
      have d5 := HB3.out.cell 5
      have d6 := HB3.out.cell 6
      have d7 := HB3.out.cell 7
      have d8 := HB3.out.cell 8
      have d9 := HB3.out.cell 9
      have d10 := HB3.out.cell 10
      have d11 := HB3.out.cell 11
      have fd := HB3.out.frozen
      have ld := HB3.out.lt
      simp at d0 d1 d2 d3 d4 d5 d6 d7 d8 d9 d10 d11
      go_wp2_with fail
      refine (rp_del q c cur w3 HH3.out hnc (by omega)).mono ?_; rintro e w4 ⟨⟨A4, c4, rfl⟩, hO4⟩
      have HP4 : Hid (Pure w w4) := HP3.out.seq hO4 fun i hi => .inr (by omega)
      clear hO4
      go_wp2_with fail
      exact ⟨⟨HP4.out, .inr (.inr ⟨rfl, rfl, A4, c4, none, 0, rfl⟩)⟩, by simp [intOf]⟩
    · simp only [if_true] at hx
      subst hx
      go_wp2_with fail
      go_ret2
      exact ⟨HP.out, A, c, none, 0, rfl⟩
end Go.Proofs.YthokkjdolcfhcaaGreatDoor

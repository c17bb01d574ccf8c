/- The statement StoreTakes, walked. -/
import Derived.Test.YthokkjdolcfhcaaGreatDoorMr

set_option linter.unusedVariables false
namespace Go.Proofs.YthokkjdolcfhcaaGreatDoor
open Go.RowKit

set_option maxRecDepth 100000 in
set_option maxHeartbeats 4000000 in
theorem l34_awake (b : Nat) (σ : Nat → Addr) (w : World) (hG : Gl b σ w) :
    Calls Tryz.prog 14 #[] w fun e w' => e = .returned (.bool true) ∧ Pure w w' := by
  have hP : Pure w (w.alloc (.cells #[.string ⟨#[116]⟩, .string ⟨#[120]⟩, .int .i64 1, .bool false, .slice none 0 0, .string ⟨#[]⟩, .int .i64 1099511627776, .int .i64 2, .string ⟨#[103]⟩] 25)) := (Keep.refl _ w).alloc _
  have HP1 := Lib.hid hP
  have HG1 := Lib.hid (hG.pure hP)
  have HM1 : Hid (Blk (w.alloc (.cells #[.string ⟨#[116]⟩, .string ⟨#[120]⟩, .int .i64 1, .bool false, .slice none 0 0, .string ⟨#[]⟩, .int .i64 1099511627776, .int .i64 2, .string ⟨#[103]⟩] 25)) w.heap.size 25 #[.string ⟨#[116]⟩, .string ⟨#[120]⟩, .int .i64 1, .bool false, .slice none 0 0, .string ⟨#[]⟩, .int .i64 1099511627776, .int .i64 2, .string ⟨#[103]⟩]) := Blk.new _ _ _
  clear hP hG
  go_enter Tryz.func14, Tryz.ntmps14
  go_wp2_with fail
  generalize w.alloc (.cells #[.string ⟨#[116]⟩, .string ⟨#[120]⟩, .int .i64 1, .bool false, .slice none 0 0, .string ⟨#[]⟩, .int .i64 1099511627776, .int .i64 2, .string ⟨#[103]⟩] 25) = w1 at *
  generalize hmm : w.heap.size = hm at *
  clear hmm
  refine (s_put_A none 0 b σ w1 HG1.out).mono ?_; rintro e w2 ⟨rfl, hP⟩
  have HP2 := Lib.hid (HP1.out.trans hP)
  have HG2 := Lib.hid (HG1.out.pure hP)
  have HM2 := Lib.hid (hP.blk HM1.out fun hf => hf)
  clear hP
  go_wp2_with fail
  refine (s_put_B b σ w2 HG2.out).mono ?_; rintro e w3 ⟨rfl, hP⟩
  have HP3 := Lib.hid (HP2.out.trans hP)
  have HG3 := Lib.hid (HG2.out.pure hP)
  have HM3 := Lib.hid (hP.blk HM2.out fun hf => hf)
  clear hP
  go_wp2_with fail
  refine (s_take_A b σ w3 HG3.out).mono ?_; rintro e w4 ⟨⟨A, c, rfl⟩, hP0⟩
  have hP : Pure w3 (w4.alloc (.cells #[.int .i64 1, .string ⟨#[103]⟩, .int .i64 2, .string ⟨#[116]⟩, .string ⟨#[120]⟩, .int .i64 1, .bool false, .slice A 0 c, .string ⟨#[]⟩, .int .i64 1099511627776, .int .i64 2, .string ⟨#[103]⟩] 27)) := hP0.alloc _
  have HO5 : Hid (Blk (w4.alloc (.cells #[.int .i64 1, .string ⟨#[103]⟩, .int .i64 2, .string ⟨#[116]⟩, .string ⟨#[120]⟩, .int .i64 1, .bool false, .slice A 0 c, .string ⟨#[]⟩, .int .i64 1099511627776, .int .i64 2, .string ⟨#[103]⟩] 27)) w4.heap.size 27 #[.int .i64 1, .string ⟨#[103]⟩, .int .i64 2, .string ⟨#[116]⟩, .string ⟨#[120]⟩, .int .i64 1, .bool false, .slice A 0 c, .string ⟨#[]⟩, .int .i64 1099511627776, .int .i64 2, .string ⟨#[103]⟩]) := Blk.new _ _ _
  have hP' : Pure w3 ((w4.alloc (.cells #[.int .i64 1, .string ⟨#[103]⟩, .int .i64 2, .string ⟨#[116]⟩, .string ⟨#[120]⟩, .int .i64 1, .bool false, .slice A 0 c, .string ⟨#[]⟩, .int .i64 1099511627776, .int .i64 2, .string ⟨#[103]⟩] 27)).alloc (.cells #[.string bA, .string ⟨#[98, 97, 100]⟩] 9)) := hP.alloc _
  have HO6 := Lib.hid (HO5.out.alloc (.cells #[.string bA, .string ⟨#[98, 97, 100]⟩] 9))
  have HS6 : Hid (Blk ((w4.alloc (.cells #[.int .i64 1, .string ⟨#[103]⟩, .int .i64 2, .string ⟨#[116]⟩, .string ⟨#[120]⟩, .int .i64 1, .bool false, .slice A 0 c, .string ⟨#[]⟩, .int .i64 1099511627776, .int .i64 2, .string ⟨#[103]⟩] 27)).alloc (.cells #[.string bA, .string ⟨#[98, 97, 100]⟩] 9)) (w4.heap.size + 1) 9 #[.string bA, .string ⟨#[98, 97, 100]⟩]) := by
    have h := Blk.new (w4.alloc (.cells #[.int .i64 1, .string ⟨#[103]⟩, .int .i64 2, .string ⟨#[116]⟩, .string ⟨#[120]⟩, .int .i64 1, .bool false, .slice A 0 c, .string ⟨#[]⟩, .int .i64 1099511627776, .int .i64 2, .string ⟨#[103]⟩] 27)) 9 #[.string bA, .string ⟨#[98, 97, 100]⟩]
    have e : (w4.alloc (.cells #[.int .i64 1, .string ⟨#[103]⟩, .int .i64 2, .string ⟨#[116]⟩, .string ⟨#[120]⟩, .int .i64 1, .bool false, .slice A 0 c, .string ⟨#[]⟩, .int .i64 1099511627776, .int .i64 2, .string ⟨#[103]⟩] 27)).heap.size = w4.heap.size + 1 := by simp
    rw [e] at h
    exact h
  have HP6 := Lib.hid (HP3.out.trans hP')
  have HG6 := Lib.hid (HG3.out.pure hP')
  have HM6 := Lib.hid (hP'.blk HM3.out fun hf => hf)
  clear hP0 hP hP' HO5
  go_wp2_with fail
  generalize (w4.alloc (.cells #[.int .i64 1, .string ⟨#[103]⟩, .int .i64 2, .string ⟨#[116]⟩, .string ⟨#[120]⟩, .int .i64 1, .bool false, .slice A 0 c, .string ⟨#[]⟩, .int .i64 1099511627776, .int .i64 2, .string ⟨#[103]⟩] 27)).alloc (.cells #[.string bA, .string ⟨#[98, 97, 100]⟩] 9) = w6 at *
  generalize w4.heap.size = ho at *
  refine (s_replay_bad b σ (ho + 1) w6 HG6.out ((HS6.out.cell 0).trans rfl) ((HS6.out.cell 1).trans rfl)).mono ?_; rintro e w7 ⟨hP, Al, cl, A', c', hx⟩
  simp only [Bool.false_eq_true, if_false] at hx
  obtain ⟨rfl, hl⟩ := hx
  obtain ⟨q, rfl⟩ : ∃ q, Al = some ⟨q, 0, none⟩ := by
    rcases hl.2 with ⟨_, h⟩ | ⟨q, _, _, h, _⟩
    · cases h
    · injection h with h1 h2 h3; exact ⟨q, h1⟩
  have HP7 := Lib.hid (HP6.out.trans hP)
  have HG7 := Lib.hid (HG6.out.pure hP)
  have HM7 := Lib.hid (hP.blk HM6.out fun hf => hf)
  have HO7 := Lib.hid (hP.blk HO6.out fun hf => hf)
  have HL7 := Lib.hid hl
  have hPn : Pure w7 (w7.alloc (.cells #[.string bA, .string bB] 9)) := (Keep.refl _ _).alloc _
  have HS8 : Hid (Blk (w7.alloc (.cells #[.string bA, .string bB] 9)) w7.heap.size 9 #[.string bA, .string bB]) := Blk.new _ _ _
  have HP8 := Lib.hid (HP7.out.trans hPn)
  have HG8 := Lib.hid (HG7.out.pure hPn)
  have HM8 := Lib.hid (hPn.blk HM7.out fun hf => hf)
  have HO8 := Lib.hid (hPn.blk HO7.out fun hf => hf)
  have HL8 := Lib.hid (hPn.own HL7.out fun _ _ hf => hf)
  clear hP hl hPn
  go_wp2_with fail
  generalize w7.alloc (.cells #[.string bA, .string bB] 9) = w8 at *
  generalize w7.heap.size = hs at *
  refine (s_replay_gone b σ hs w8 HG8.out ((HS8.out.cell 0).trans rfl) ((HS8.out.cell 1).trans rfl)).mono ?_; rintro e w9 ⟨hP, Ak, ck, _, _, hx⟩
  simp only [if_true] at hx
  subst hx
  have HP9 := Lib.hid (HP8.out.trans hP)
  have HG9 := Lib.hid (HG8.out.pure hP)
  have HM9 := Lib.hid (hP.blk HM8.out fun hf => hf)
  have HO9 := Lib.hid (hP.blk HO8.out fun hf => hf)
  have HL9 := Lib.hid (hP.own HL8.out fun _ _ hf => hf)
  clear hP
  have d0 := HM9.out.cell 0
  have d1 := HM9.out.cell 1
  have d2 := HM9.out.cell 2
  have d3 := HM9.out.cell 3
  have d4 := HM9.out.cell 4
  have d5 := HM9.out.cell 5
  have d6 := HM9.out.cell 6
  have d7 := HM9.out.cell 7
  have d8 := HM9.out.cell 8
  simp at d0 d1 d2 d3 d4 d5 d6 d7 d8
  have x0 := HO9.out.cell 0
  have x1 := HO9.out.cell 1
  have x2 := HO9.out.cell 2
  have x3 := HO9.out.cell 3
  have x4 := HO9.out.cell 4
  have x5 := HO9.out.cell 5
  have x6 := HO9.out.cell 6
  have x7 := HO9.out.cell 7
  have x8 := HO9.out.cell 8
  have x9 := HO9.out.cell 9
  have x10 := HO9.out.cell 10
  have x11 := HO9.out.cell 11
  simp at x0 x1 x2 x3 x4 x5 x6 x7 x8 x9 x10 x11
  go_wp2_with fail
  refine (q_msg_same mA A none c 0 0 0 w9 ⟨by simp [mA, prRow], fun h => absurd h (by simp [mA])⟩ ⟨by simp [mA, prRow], fun h => absurd h (by simp [mA])⟩ (Nat.zero_le _) (Nat.zero_le _) (by simp [mA])).mono ?_; rintro e w10 ⟨rfl, hP⟩
  have hPn : Pure w9 (w10.alloc (.cells #[.string ⟨#[116]⟩, .string ⟨#[120]⟩, .int .i64 1, .bool false, .slice none 0 0, .string ⟨#[]⟩, .int .i64 1099511627776, .int .i64 2, .string ⟨#[103]⟩] 25)) := hP.alloc _
  have HS11 : Hid (Blk (w10.alloc (.cells #[.string ⟨#[116]⟩, .string ⟨#[120]⟩, .int .i64 1, .bool false, .slice none 0 0, .string ⟨#[]⟩, .int .i64 1099511627776, .int .i64 2, .string ⟨#[103]⟩] 25)) w10.heap.size 25 #[.string ⟨#[116]⟩, .string ⟨#[120]⟩, .int .i64 1, .bool false, .slice none 0 0, .string ⟨#[]⟩, .int .i64 1099511627776, .int .i64 2, .string ⟨#[103]⟩]) := Blk.new _ _ _
  have HP11 := Lib.hid (HP9.out.trans hPn)
  have HG11 := Lib.hid (HG9.out.pure hPn)
  have HL11 := Lib.hid (hPn.own HL9.out fun _ _ hf => hf)
  have HM10 := Lib.hid (hP.blk HM9.out fun hf => hf)
  clear hP hPn d0 d1 d2 d3 d4 d5 d6 d7 d8 x0 x1 x2 x3 x4 x5 x6 x7 x8 x9 x10 x11
  have d0 := HM10.out.cell 0
  have d1 := HM10.out.cell 1
  have d2 := HM10.out.cell 2
  have d3 := HM10.out.cell 3
  have d4 := HM10.out.cell 4
  have d5 := HM10.out.cell 5
  have d6 := HM10.out.cell 6
  have d7 := HM10.out.cell 7
  have d8 := HM10.out.cell 8
  simp at d0 d1 d2 d3 d4 d5 d6 d7 d8
  go_wp2_with fail
  clear d0 d1 d2 d3 d4 d5 d6 d7 d8
  generalize w10.alloc (.cells #[.string ⟨#[116]⟩, .string ⟨#[120]⟩, .int .i64 1, .bool false, .slice none 0 0, .string ⟨#[]⟩, .int .i64 1099511627776, .int .i64 2, .string ⟨#[103]⟩] 25) = w11 at *
  generalize w10.heap.size = h2 at *
  refine (q_msgs_same mA q h2 cl 1 A' none c' 0 rfl w11 (fun j u hu => by
    have h := HL11.out.cells (g := q) rfl j u (by simpa using hu)
    rw [Addr.add_lit] at h
    simpa using h) (fun j u hu => (HS11.out.cell j).trans hu)).mono ?_; rintro e w12 ⟨rfl, hP⟩
  have HP12 := Lib.hid (HP11.out.trans hP)
  have HG12 := Lib.hid (HG11.out.pure hP)
  have HL12 := Lib.hid (hP.own HL11.out fun _ _ hf => hf)
  clear hP
  go_wp2_with fail
  refine (s_rewrite A' c' b σ q cl w12 HG12.out (fun j u hu => by
    have h := HL12.out.cells (g := q) rfl j u (by simpa [msgCells, mA, noBytes] using hu)
    rw [Addr.add_lit] at h
    simpa using h)).mono ?_; rintro e w13 ⟨hP, Ar, cr, rfl⟩
  have HP13 := Lib.hid (HP12.out.trans hP)
  clear hP
  go_wp2_with fail
  go_ret
  exact ⟨rfl, HP13.out⟩

set_option maxRecDepth 100000 in
set_option maxHeartbeats 4000000 in
theorem l34_takes (b : Nat) (σ : Nat → Addr) (s : ByteArray) (w : World) (hG : Gl b σ w) :
    Calls Tryz.prog 3 #[.string s] w fun e w' => e = .returned (.bool true) ∧ Pure w w' := by
  by_cases hs : 2048 < s.size
  · have HG := Lib.hid hG
    have hs2 : (2048 : Int) < (s.size : Int) := by omega
    clear hG hs
    go_enter Tryz.func3, Tryz.ntmps3
    go_wp2_with fail
    refine (l34_awake b σ w HG.out).mono ?_; rintro e w7 ⟨rfl, hP⟩
    have HP7 := Lib.hid hP
    clear hP
    go_wp2_with fail
    go_ret
    exact ⟨rfl, HP7.out⟩
  have hs2 : ¬ (2048 : Int) < (s.size : Int) := by omega
  have hT := s_take b σ s w hG (by omega)
  cases hx : sTake s with
  | error f =>
    rw [hx] at hT
    have HT := Lib.hid hT
    have HX := Lib.hid hx
    clear hT hx
    go_enter Tryz.func3, Tryz.ntmps3
    go_wp2_with fail
    refine HT.out.mono ?_; rintro e w1 ⟨hP, v, rfl, hE⟩
    obtain ⟨hok, ge, rfl, hc⟩ := hE
    have HOK := Lib.hid hok
    simp only [opCells, zOp, zMsg, noBytes]
    have hP2 : Pure w (w1.alloc (.cells #[.int .i64 0, .string ⟨#[]⟩, .int .i64 0, .string ⟨#[]⟩, .string ⟨#[]⟩, .int .i64 0, .bool false, .slice none 0 0, .string ⟨#[]⟩, .int .i64 0, .int .i64 0, .string ⟨#[]⟩] 27)) := hP.alloc _
    have HP2 := Lib.hid hP2
    have HG2 := Lib.hid (hG.pure hP2)
    have HA2 : Hid (Blk (w1.alloc (.cells #[.int .i64 0, .string ⟨#[]⟩, .int .i64 0, .string ⟨#[]⟩, .string ⟨#[]⟩, .int .i64 0, .bool false, .slice none 0 0, .string ⟨#[]⟩, .int .i64 0, .int .i64 0, .string ⟨#[]⟩] 27)) w1.heap.size 27 #[.int .i64 0, .string ⟨#[]⟩, .int .i64 0, .string ⟨#[]⟩, .string ⟨#[]⟩, .int .i64 0, .bool false, .slice none 0 0, .string ⟨#[]⟩, .int .i64 0, .int .i64 0, .string ⟨#[]⟩]) := Blk.new _ _ _
    have HC2 := Lib.hid (hc.keep ((Keep.refl (fun _ => False) w1).alloc (.cells #[.int .i64 0, .string ⟨#[]⟩, .int .i64 0, .string ⟨#[]⟩, .string ⟨#[]⟩, .int .i64 0, .bool false, .slice none 0 0, .string ⟨#[]⟩, .int .i64 0, .int .i64 0, .string ⟨#[]⟩] 27)) fun _ _ _ hf => hf)
    clear hP hP2 hG
    go_wp2_with fail
    generalize (w1.alloc (.cells #[.int .i64 0, .string ⟨#[]⟩, .int .i64 0, .string ⟨#[]⟩, .string ⟨#[]⟩, .int .i64 0, .bool false, .slice none 0 0, .string ⟨#[]⟩, .int .i64 0, .int .i64 0, .string ⟨#[]⟩] 27)) = w2 at *
    generalize w1.heap.size = h1 at *
    refine (q34_take s w2 (by omega)).mono ?_; rintro e w3 ⟨hP, hy⟩
    rw [HX.out] at hy
    simp only at hy
    subst hy
    simp only [opCells, zOp, zMsg, noBytes]
    have hPa : Pure w2 ((w3.alloc (.cells #[.int .i64 0, .string ⟨#[]⟩, .int .i64 0, .string ⟨#[]⟩, .string ⟨#[]⟩, .int .i64 0, .bool false, .slice none 0 0, .string ⟨#[]⟩, .int .i64 0, .int .i64 0, .string ⟨#[]⟩] 27)).alloc (.cells #[.int .i64 f.k, .int .i64 f.r, .int .i64 f.a] 34)) := (hP.alloc _).alloc _
    have HP4 := Lib.hid (HP2.out.trans hPa)
    have HG4 := Lib.hid (HG2.out.pure hPa)
    have HA4 := Lib.hid (hPa.blk HA2.out fun hf => hf)
    have HB4 : Hid (Blk ((w3.alloc (.cells #[.int .i64 0, .string ⟨#[]⟩, .int .i64 0, .string ⟨#[]⟩, .string ⟨#[]⟩, .int .i64 0, .bool false, .slice none 0 0, .string ⟨#[]⟩, .int .i64 0, .int .i64 0, .string ⟨#[]⟩] 27)).alloc (.cells #[.int .i64 f.k, .int .i64 f.r, .int .i64 f.a] 34)) w3.heap.size 27 #[.int .i64 0, .string ⟨#[]⟩, .int .i64 0, .string ⟨#[]⟩, .string ⟨#[]⟩, .int .i64 0, .bool false, .slice none 0 0, .string ⟨#[]⟩, .int .i64 0, .int .i64 0, .string ⟨#[]⟩]) := (Blk.new _ _ _).alloc _
    have HF4 : Hid (Blk ((w3.alloc (.cells #[.int .i64 0, .string ⟨#[]⟩, .int .i64 0, .string ⟨#[]⟩, .string ⟨#[]⟩, .int .i64 0, .bool false, .slice none 0 0, .string ⟨#[]⟩, .int .i64 0, .int .i64 0, .string ⟨#[]⟩] 27)).alloc (.cells #[.int .i64 f.k, .int .i64 f.r, .int .i64 f.a] 34)) (w3.heap.size + 1) 34 #[.int .i64 f.k, .int .i64 f.r, .int .i64 f.a]) := by
      have h := Blk.new (w3.alloc (.cells #[.int .i64 0, .string ⟨#[]⟩, .int .i64 0, .string ⟨#[]⟩, .string ⟨#[]⟩, .int .i64 0, .bool false, .slice none 0 0, .string ⟨#[]⟩, .int .i64 0, .int .i64 0, .string ⟨#[]⟩] 27)) 34 #[.int .i64 f.k, .int .i64 f.r, .int .i64 f.a]
      have e : (w3.alloc (.cells #[.int .i64 0, .string ⟨#[]⟩, .int .i64 0, .string ⟨#[]⟩, .string ⟨#[]⟩, .int .i64 0, .bool false, .slice none 0 0, .string ⟨#[]⟩, .int .i64 0, .int .i64 0, .string ⟨#[]⟩] 27)).heap.size = w3.heap.size + 1 := by simp
      rw [e] at h
      exact h
    have HC4 := Lib.hid (HC2.out.keep hPa fun _ _ _ hf => hf)
    clear hP hPa
    simp only [fltVal]
    have hlA := HA4.out.lt
    have hlB := HB4.out.lt
    have cA := HA4.out.cell
    have cB := HB4.out.cell
    have d0 := (cA 0).trans rfl
    have x0 := (cB 0).trans rfl
    have d1 := (cA 1).trans rfl
    have x1 := (cB 1).trans rfl
    have d2 := (cA 2).trans rfl
    have x2 := (cB 2).trans rfl
    have d3 := (cA 3).trans rfl
    have x3 := (cB 3).trans rfl
    have d4 := (cA 4).trans rfl
    have x4 := (cB 4).trans rfl
    have d5 := (cA 5).trans rfl
    have x5 := (cB 5).trans rfl
    have d6 := (cA 6).trans rfl
    have x6 := (cB 6).trans rfl
    have d7 := (cA 7).trans rfl
    have x7 := (cB 7).trans rfl
    have d8 := (cA 8).trans rfl
    have x8 := (cB 8).trans rfl
    have d9 := (cA 9).trans rfl
    have x9 := (cB 9).trans rfl
    have d10 := (cA 10).trans rfl
    have x10 := (cB 10).trans rfl
    have d11 := (cA 11).trans rfl
    have x11 := (cB 11).trans rfl
    clear cA cB
    go_wp2_with fail
    generalize ((w3.alloc (.cells #[.int .i64 0, .string ⟨#[]⟩, .int .i64 0, .string ⟨#[]⟩, .string ⟨#[]⟩, .int .i64 0, .bool false, .slice none 0 0, .string ⟨#[]⟩, .int .i64 0, .int .i64 0, .string ⟨#[]⟩] 27)).alloc (.cells #[.int .i64 f.k, .int .i64 f.r, .int .i64 f.a] 34)) = w4 at *
    generalize w3.heap.size = h3 at *
    refine (q_op_same zOp none none 0 0 0 0 w4 Reads.none_ Reads.none_ (Nat.zero_le _) (Nat.zero_le _) (by simp [zOp, zMsg])).mono ?_; rintro e w5 ⟨rfl, hP⟩
    have HP5 := Lib.hid (HP4.out.trans hP)
    have HG5 := Lib.hid (HG4.out.pure hP)
    have HF5 := Lib.hid (hP.blk HF4.out fun hf => hf)
    have HC5 := Lib.hid (HC4.out.keep hP fun _ _ _ hf => hf)
    clear hP
    have y0 := HF5.out.cell 0
    have y1 := HF5.out.cell 1
    have y2 := HF5.out.cell 2
    simp at y0 y1 y2
    go_wp2_with fail
    refine (l34_same_some b σ f ge w5 HG5.out HOK.out HC5.out).mono ?_; rintro e w6 ⟨rfl, hP⟩
    have HP6 := Lib.hid (HP5.out.trans hP)
    have HG6 := Lib.hid (HG5.out.pure hP)
    clear hP
    go_wp2_with fail
    refine (l34_awake b σ w6 HG6.out).mono ?_; rintro e w7 ⟨rfl, hP⟩
    have HP7 := Lib.hid (HP6.out.trans hP)
    clear hP
    go_wp2_with fail
    go_ret
    exact ⟨rfl, HP7.out⟩
  | ok o =>
    rw [hx] at hT
    have HT := Lib.hid hT
    have HX := Lib.hid hx
    clear hT hx
    go_enter Tryz.func3, Tryz.ntmps3
    go_wp2_with fail
    refine HT.out.mono ?_; rintro e w1 ⟨hP, A, c, rfl, ho, hl⟩
    simp only [opCells]
    have hP2 : Pure w (w1.alloc (.cells #[.int .i64 o.kind, .string o.group, .int .i64 o.seq, .string o.msg.topic, .string o.msg.payload, .int .i64 o.msg.qos, .bool o.msg.retain, .slice A o.msg.props.length c, .string o.msg.from_, .int .i64 o.msg.until_, .int .i64 o.msg.seq, .string o.msg.group] 27)) := hP.alloc _
    have HP2 := Lib.hid hP2
    have HG2 := Lib.hid (hG.pure hP2)
    have HA2 : Hid (Blk (w1.alloc (.cells #[.int .i64 o.kind, .string o.group, .int .i64 o.seq, .string o.msg.topic, .string o.msg.payload, .int .i64 o.msg.qos, .bool o.msg.retain, .slice A o.msg.props.length c, .string o.msg.from_, .int .i64 o.msg.until_, .int .i64 o.msg.seq, .string o.msg.group] 27)) w1.heap.size 27 #[.int .i64 o.kind, .string o.group, .int .i64 o.seq, .string o.msg.topic, .string o.msg.payload, .int .i64 o.msg.qos, .bool o.msg.retain, .slice A o.msg.props.length c, .string o.msg.from_, .int .i64 o.msg.until_, .int .i64 o.msg.seq, .string o.msg.group]) := Blk.new _ _ _
    have HR2 : Hid (Reads (w1.alloc (.cells #[.int .i64 o.kind, .string o.group, .int .i64 o.seq, .string o.msg.topic, .string o.msg.payload, .int .i64 o.msg.qos, .bool o.msg.retain, .slice A o.msg.props.length c, .string o.msg.from_, .int .i64 o.msg.until_, .int .i64 o.msg.seq, .string o.msg.group] 27)) w1.heap.size 4 A o.msg.props.length (prRow o.msg.props) ∧ w1.heap.size ≤ (w1.alloc (.cells #[.int .i64 o.kind, .string o.group, .int .i64 o.seq, .string o.msg.topic, .string o.msg.payload, .int .i64 o.msg.qos, .bool o.msg.retain, .slice A o.msg.props.length c, .string o.msg.from_, .int .i64 o.msg.until_, .int .i64 o.msg.seq, .string o.msg.group] 27)).heap.size) := ⟨Reads.pure (Reads.of_own ho) ((Keep.refl (fun _ => False) w1).alloc _) (Nat.le_refl _), by simp⟩
    obtain ⟨B1, hB1⟩ : ∃ B, B = w1.heap.size := ⟨_, rfl⟩
    rw [← hB1] at HR2
    clear hB1
    clear hP hP2 hG
    go_wp2_with fail
    generalize (w1.alloc (.cells #[.int .i64 o.kind, .string o.group, .int .i64 o.seq, .string o.msg.topic, .string o.msg.payload, .int .i64 o.msg.qos, .bool o.msg.retain, .slice A o.msg.props.length c, .string o.msg.from_, .int .i64 o.msg.until_, .int .i64 o.msg.seq, .string o.msg.group] 27)) = w2 at *
    generalize w1.heap.size = h1 at *
    refine (q34_take s w2 (by omega)).mono ?_; rintro e w3 ⟨hP, hy⟩
    rw [HX.out] at hy
    simp only at hy
    obtain ⟨A', c', rfl, ho', _⟩ := hy
    simp only [opCells]
    have HO3 := Lib.hid ho'
    have hPa : Pure w2 ((w3.alloc (.cells #[.int .i64 o.kind, .string o.group, .int .i64 o.seq, .string o.msg.topic, .string o.msg.payload, .int .i64 o.msg.qos, .bool o.msg.retain, .slice A' o.msg.props.length c', .string o.msg.from_, .int .i64 o.msg.until_, .int .i64 o.msg.seq, .string o.msg.group] 27)).alloc (.cells #[.int .i64 0, .int .i64 0, .int .i64 0] 34)) := (hP.alloc _).alloc _
    have HP4 := Lib.hid (HP2.out.trans hPa)
    have HG4 := Lib.hid (HG2.out.pure hPa)
    have HA4 := Lib.hid (hPa.blk HA2.out fun hf => hf)
    have HB4 : Hid (Blk ((w3.alloc (.cells #[.int .i64 o.kind, .string o.group, .int .i64 o.seq, .string o.msg.topic, .string o.msg.payload, .int .i64 o.msg.qos, .bool o.msg.retain, .slice A' o.msg.props.length c', .string o.msg.from_, .int .i64 o.msg.until_, .int .i64 o.msg.seq, .string o.msg.group] 27)).alloc (.cells #[.int .i64 0, .int .i64 0, .int .i64 0] 34)) w3.heap.size 27 #[.int .i64 o.kind, .string o.group, .int .i64 o.seq, .string o.msg.topic, .string o.msg.payload, .int .i64 o.msg.qos, .bool o.msg.retain, .slice A' o.msg.props.length c', .string o.msg.from_, .int .i64 o.msg.until_, .int .i64 o.msg.seq, .string o.msg.group]) := (Blk.new _ _ _).alloc _
    have HF4 : Hid (Blk ((w3.alloc (.cells #[.int .i64 o.kind, .string o.group, .int .i64 o.seq, .string o.msg.topic, .string o.msg.payload, .int .i64 o.msg.qos, .bool o.msg.retain, .slice A' o.msg.props.length c', .string o.msg.from_, .int .i64 o.msg.until_, .int .i64 o.msg.seq, .string o.msg.group] 27)).alloc (.cells #[.int .i64 0, .int .i64 0, .int .i64 0] 34)) (w3.heap.size + 1) 34 #[.int .i64 0, .int .i64 0, .int .i64 0]) := by
      have h := Blk.new (w3.alloc (.cells #[.int .i64 o.kind, .string o.group, .int .i64 o.seq, .string o.msg.topic, .string o.msg.payload, .int .i64 o.msg.qos, .bool o.msg.retain, .slice A' o.msg.props.length c', .string o.msg.from_, .int .i64 o.msg.until_, .int .i64 o.msg.seq, .string o.msg.group] 27)) 34 #[.int .i64 0, .int .i64 0, .int .i64 0]
      have e : (w3.alloc (.cells #[.int .i64 o.kind, .string o.group, .int .i64 o.seq, .string o.msg.topic, .string o.msg.payload, .int .i64 o.msg.qos, .bool o.msg.retain, .slice A' o.msg.props.length c', .string o.msg.from_, .int .i64 o.msg.until_, .int .i64 o.msg.seq, .string o.msg.group] 27)).heap.size = w3.heap.size + 1 := by simp
      rw [e] at h
      exact h
    have HR4 := Lib.hid (HR2.out.1.pure hPa HR2.out.2)
    have HR4' : Hid (Reads ((w3.alloc (.cells #[.int .i64 o.kind, .string o.group, .int .i64 o.seq, .string o.msg.topic, .string o.msg.payload, .int .i64 o.msg.qos, .bool o.msg.retain, .slice A' o.msg.props.length c', .string o.msg.from_, .int .i64 o.msg.until_, .int .i64 o.msg.seq, .string o.msg.group] 27)).alloc (.cells #[.int .i64 0, .int .i64 0, .int .i64 0] 34)) w3.heap.size 4 A' o.msg.props.length (prRow o.msg.props)) := Reads.pure (Reads.of_own HO3.out) (((Keep.refl (fun _ => False) w3).alloc _).alloc _) (Nat.le_refl _)
    have HS4 : Hid (B1 ≤ ((w3.alloc (.cells #[.int .i64 o.kind, .string o.group, .int .i64 o.seq, .string o.msg.topic, .string o.msg.payload, .int .i64 o.msg.qos, .bool o.msg.retain, .slice A' o.msg.props.length c', .string o.msg.from_, .int .i64 o.msg.until_, .int .i64 o.msg.seq, .string o.msg.group] 27)).alloc (.cells #[.int .i64 0, .int .i64 0, .int .i64 0] 34)).heap.size ∧ w3.heap.size ≤ ((w3.alloc (.cells #[.int .i64 o.kind, .string o.group, .int .i64 o.seq, .string o.msg.topic, .string o.msg.payload, .int .i64 o.msg.qos, .bool o.msg.retain, .slice A' o.msg.props.length c', .string o.msg.from_, .int .i64 o.msg.until_, .int .i64 o.msg.seq, .string o.msg.group] 27)).alloc (.cells #[.int .i64 0, .int .i64 0, .int .i64 0] 34)).heap.size) := ⟨Nat.le_trans HR2.out.2 hPa.size, by simp; omega⟩
    clear hP hPa
    simp only [fltVal]
    have hlA := HA4.out.lt
    have hlB := HB4.out.lt
    have cA := HA4.out.cell
    have cB := HB4.out.cell
    have d0 := (cA 0).trans rfl
    have x0 := (cB 0).trans rfl
    have d1 := (cA 1).trans rfl
    have x1 := (cB 1).trans rfl
    have d2 := (cA 2).trans rfl
    have x2 := (cB 2).trans rfl
    have d3 := (cA 3).trans rfl
    have x3 := (cB 3).trans rfl
    have d4 := (cA 4).trans rfl
    have x4 := (cB 4).trans rfl
    have d5 := (cA 5).trans rfl
    have x5 := (cB 5).trans rfl
    have d6 := (cA 6).trans rfl
    have x6 := (cB 6).trans rfl
    have d7 := (cA 7).trans rfl
    have x7 := (cB 7).trans rfl
    have d8 := (cA 8).trans rfl
    have x8 := (cB 8).trans rfl
    have d9 := (cA 9).trans rfl
    have x9 := (cB 9).trans rfl
    have d10 := (cA 10).trans rfl
    have x10 := (cB 10).trans rfl
    have d11 := (cA 11).trans rfl
    have x11 := (cB 11).trans rfl
    clear cA cB
    go_wp2_with fail
    generalize ((w3.alloc (.cells #[.int .i64 o.kind, .string o.group, .int .i64 o.seq, .string o.msg.topic, .string o.msg.payload, .int .i64 o.msg.qos, .bool o.msg.retain, .slice A' o.msg.props.length c', .string o.msg.from_, .int .i64 o.msg.until_, .int .i64 o.msg.seq, .string o.msg.group] 27)).alloc (.cells #[.int .i64 0, .int .i64 0, .int .i64 0] 34)) = w4 at *
    generalize w3.heap.size = h3 at *
    refine (q_op_same o A A' c c' B1 h3 w4 HR4.out HR4'.out HS4.out.1 HS4.out.2 (by omega)).mono ?_; rintro e w5 ⟨rfl, hP⟩
    have HP5 := Lib.hid (HP4.out.trans hP)
    have HG5 := Lib.hid (HG4.out.pure hP)
    have HF5 := Lib.hid (hP.blk HF4.out fun hf => hf)
    skip
    clear hP
    have y0 := HF5.out.cell 0
    have y1 := HF5.out.cell 1
    have y2 := HF5.out.cell 2
    simp at y0 y1 y2
    go_wp2_with fail
    refine (l34_same_none b σ w5 HG5.out).mono ?_; rintro e w6 ⟨rfl, hP⟩
    have HP6 := Lib.hid (HP5.out.trans hP)
    have HG6 := Lib.hid (HG5.out.pure hP)
    clear hP
    go_wp2_with fail
    refine (l34_awake b σ w6 HG6.out).mono ?_; rintro e w7 ⟨rfl, hP⟩
    have HP7 := Lib.hid (HP6.out.trans hP)
    clear hP
    go_wp2_with fail
    go_ret
    exact ⟨rfl, HP7.out⟩

end Go.Proofs.YthokkjdolcfhcaaGreatDoor

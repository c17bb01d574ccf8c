/- Package store: Take. -/
import Derived.Test.YthokkjdolcfhcaaGreatDoorMn

set_option linter.unusedVariables false
namespace Go.Proofs.YthokkjdolcfhcaaGreatDoor
open Go.RowKit

def zOp : SOp := ⟨0, noBytes, 0, zMsg⟩
def TkOpPost (σ : Nat → Addr) (x : Except Flt SOp) (w : World) (e : Ending) (w' : World) : Prop :=
  Pure w w' ∧ match x with
  | .error f => ∃ v, e = .returned (.tuple #[.agg (opCells zOp (.slice none 0 0)), v]) ∧ Er σ w' v (some f)
  | .ok o => ∃ A c, e = .returned (.tuple #[.agg (opCells o (.slice A o.msg.props.length c)), .nilIface]) ∧ w'.ownsRow w.heap.size 152 4 (.slice A o.msg.props.length c) o.msg.props.length (prRow o.msg.props) ∧ o.msg.props.length ≤ 64
theorem only_pure {w w' : World} {g : Nat} (h : Only g w w') (hg : w.heap.size ≤ g) : Pure w w' := (Keep.refl (fun _ => False) w).seq h fun i hi => .inr (by subst hi; exact hg)

theorem own_nil (w : World) (base : Nat) : w.ownsRow base 152 4 (.slice none 0 0) 0 (prRow []) := ⟨by simp [prRow], .inl ⟨rfl, rfl⟩⟩
set_option maxRecDepth 100000 in
set_option maxHeartbeats 4000000 in
theorem s_take_rest (b : Nat) (σ : Nat → Addr) (s : ByteArray) (w : World) (hG : Gl b σ w) (hs : s.size ≤ 140737488351232) (hk : ¬ (((⟨s, 0, none⟩ : RS).num 1).1 = 1)) :
    Calls Tryz.prog 15 #[.string s] w (TkOpPost σ (sTake s) w) := by
  have hbw := hG.size
  have HPa : Hid (Pure w (w.alloc (.cells #[.int .i64 0, .string ⟨#[]⟩, .int .i64 0, .string ⟨#[]⟩, .string ⟨#[]⟩, .int .i64 0, .bool false, .slice none 0 0, .string ⟨#[]⟩, .int .i64 0, .int .i64 0, .string ⟨#[]⟩] 27))) := (Keep.refl _ w).alloc _
  have HBa : Hid (Blk (w.alloc (.cells #[.int .i64 0, .string ⟨#[]⟩, .int .i64 0, .string ⟨#[]⟩, .string ⟨#[]⟩, .int .i64 0, .bool false, .slice none 0 0, .string ⟨#[]⟩, .int .i64 0, .int .i64 0, .string ⟨#[]⟩] 27)) w.heap.size 27 #[.int .i64 0, .string ⟨#[]⟩, .int .i64 0, .string ⟨#[]⟩, .string ⟨#[]⟩, .int .i64 0, .bool false, .slice none 0 0, .string ⟨#[]⟩, .int .i64 0, .int .i64 0, .string ⟨#[]⟩]) := Blk.new _ _ _
  have HGa := Lib.hid (hG.pure HPa.out)
  have HKK := Lib.hid hk
  clear hG hk
  go_enter Tryz.func15, Tryz.ntmps15
  go_wp2_with fail
  generalize w.alloc (.cells #[.int .i64 0, .string ⟨#[]⟩, .int .i64 0, .string ⟨#[]⟩, .string ⟨#[]⟩, .int .i64 0, .bool false, .slice none 0 0, .string ⟨#[]⟩, .int .i64 0, .int .i64 0, .string ⟨#[]⟩] 27) = w1 at *
  refine (new_reader b σ s w1 HGa.out hs).mono ?_; rintro e w2 ⟨g, rfl, hR, hg, hP⟩
  have hgw : w.heap.size ≤ g := by rw [hg]; exact HPa.out.size
  have HR2 := Lib.hid hR
  have HG2 := Lib.hid (HGa.out.pure hP)
  have HP2 : Hid (Only g w w2) := Keep.of_pure (HPa.out.trans hP)
  have HB2 := Lib.hid (hP.blk HBa.out fun hf => hf)
  clear hR hg hP
  have HT0 : Hid (sTake s = sBody (((⟨s, 0, none⟩ : RS).num 1).2.bin.2.num 4).2 ((⟨s, 0, none⟩ : RS).num 1).1 ((⟨s, 0, none⟩ : RS).num 1).2.bin.1 (((⟨s, 0, none⟩ : RS).num 1).2.bin.2.num 4).1) := rfl
  go_wp2_with fail
  refine (r_u8 b σ g _ w2 HG2.out HR2.out).mono ?_; rintro e w3 ⟨rfl, h1, h2⟩
  have HR3 := Lib.hid h1
  have HG3 := Lib.hid (HG2.out.only h2 h1)
  have HP3 := Lib.hid (HP2.out.trans h2)
  have HB3 := Lib.hid (HB2.out.rd h2 HR2.out (by decide))
  clear h1 h2
  generalize ((⟨s, 0, none⟩ : RS).num 1).1 = k at *
  generalize ((⟨s, 0, none⟩ : RS).num 1).2 = s1 at *
  go_wp2_with fail
  refine (r_bin b σ g _ w3 HG3.out HR3.out).mono ?_; rintro e w4 ⟨rfl, h1, h2⟩
  have HR4 := Lib.hid h1
  have HG4 := Lib.hid (HG3.out.only h2 h1)
  have HP4 := Lib.hid (HP3.out.trans h2)
  have HB4 := Lib.hid (HB3.out.rd h2 HR3.out (by decide))
  clear h1 h2
  generalize s1.bin.1 = group at *
  generalize s1.bin.2 = s2 at *
  go_wp2_with fail
  refine (r_u32 b σ g _ w4 HG4.out HR4.out).mono ?_; rintro e w5 ⟨rfl, h1, h2⟩
  have HR5 := Lib.hid h1
  have HG5 := Lib.hid (HG4.out.only h2 h1)
  have HP5 := Lib.hid (HP4.out.trans h2)
  have HB5 := Lib.hid (HB4.out.rd h2 HR4.out (by decide))
  clear h1 h2
  generalize (s2.num 4).1 = seq at *
  generalize (s2.num 4).2 = s3 at *
  have HQ : Hid (RB b σ w g w.heap.size w5.heap.size 27 s3 #[.int .i64 0, .string ⟨#[]⟩, .int .i64 0, .string ⟨#[]⟩, .string ⟨#[]⟩, .int .i64 0, .bool false, .slice none 0 0, .string ⟨#[]⟩, .int .i64 0, .int .i64 0, .string ⟨#[]⟩] #[.int .i64 (k : Nat), .string group, .int .i64 (seq : Nat), .string ⟨#[]⟩, .string ⟨#[]⟩, .int .i64 0, .bool false, .slice none 0 0, .string ⟨#[]⟩, .int .i64 0, .int .i64 0, .string ⟨#[]⟩] (w5.alloc (.cells #[.int .i64 (k : Nat), .string group, .int .i64 (seq : Nat), .string ⟨#[]⟩, .string ⟨#[]⟩, .int .i64 0, .bool false, .slice none 0 0, .string ⟨#[]⟩, .int .i64 0, .int .i64 0, .string ⟨#[]⟩] 27))) := by
    have hk : Pure w5 (w5.alloc (.cells #[.int .i64 (k : Nat), .string group, .int .i64 (seq : Nat), .string ⟨#[]⟩, .string ⟨#[]⟩, .int .i64 0, .bool false, .slice none 0 0, .string ⟨#[]⟩, .int .i64 0, .int .i64 0, .string ⟨#[]⟩] 27)) := (Keep.refl _ w5).alloc _
    have h1 := HP5.out.size
    have h2 := HB5.out.lt
    exact ⟨HG5.out.pure hk, HR5.out.pure hk, hk.blk HB5.out (fun hf => hf), Blk.new _ _ _, HP5.out.trans (Keep.of_pure hk), ⟨Nat.le_refl _, h1, by omega, hbw⟩, by decide, by decide⟩
  have hk1 : ((k : Int) == 1) = false := by
    have h : ¬ k = 1 := HKK.out
    simp
    omega
  have HT : Hid (sTake s = sEnd s3 ⟨k, group, seq, zMsg⟩ 0) := by
    show _ = _
    rw [HT0.out]
    unfold sBody
    rw [if_neg (fun h => HKK.out (by omega))]
  clear HR2 HG2 HP2 HB2 HR3 HG3 HP3 HB3 HR4 HG4 HP4 HB4 HR5 HG5 HP5 HB5 HGa HPa HBa HT0
  have d0 := HQ.out.hB2.cell 0
  have d1 := HQ.out.hB2.cell 1
  have d2 := HQ.out.hB2.cell 2
  have d3 := HQ.out.hB2.cell 3
  have d4 := HQ.out.hB2.cell 4
  have d5 := HQ.out.hB2.cell 5
  have d6 := HQ.out.hB2.cell 6
  have d7 := HQ.out.hB2.cell 7
  have d8 := HQ.out.hB2.cell 8
  have d9 := HQ.out.hB2.cell 9
  have d10 := HQ.out.hB2.cell 10
  have d11 := HQ.out.hB2.cell 11
  have fd := HQ.out.hB2.frozen
  have ld := HQ.out.hB2.lt
  simp at d0 d1 d2 d3 d4 d5 d6 d7 d8 d9 d10 d11
  go_wp2_with fail
  clear d0 d1 d2 d3 d4 d5 d6 d7 d8 d9 d10 d11 fd ld
  generalize w5.alloc (.cells #[.int .i64 (k : Nat), .string group, .int .i64 (seq : Nat), .string ⟨#[]⟩, .string ⟨#[]⟩, .int .i64 0, .bool false, .slice none 0 0, .string ⟨#[]⟩, .int .i64 0, .int .i64 0, .string ⟨#[]⟩] 27) = w6 at *
  generalize w5.heap.size = hm at *
  have HLT : Hid (w.heap.size < w6.heap.size ∧ hm < w6.heap.size) := ⟨HQ.out.hB1.lt, HQ.out.hB2.lt⟩
  refine (r_done b σ g _ w6 HQ.out.hG HQ.out.hR).mono ?_; rintro e wd ⟨vd, rfl, hE, hP⟩
  have HQd := Lib.hid (HQ.out.pure hP)
  have HOd := Lib.hid (hP.own (own_nil w6 w6.heap.size) fun _ _ hf => hf)
  have HE := Lib.hid hE
  clear hP
  have y0 := HQd.out.hB1.cell 0
  have y1 := HQd.out.hB1.cell 1
  have y2 := HQd.out.hB1.cell 2
  have y3 := HQd.out.hB1.cell 3
  have y4 := HQd.out.hB1.cell 4
  have y5 := HQd.out.hB1.cell 5
  have y6 := HQd.out.hB1.cell 6
  have y7 := HQd.out.hB1.cell 7
  have y8 := HQd.out.hB1.cell 8
  have y9 := HQd.out.hB1.cell 9
  have y10 := HQd.out.hB1.cell 10
  have y11 := HQd.out.hB1.cell 11
  have fy := HQd.out.hB1.frozen
  have ly := HQd.out.hB1.lt
  simp at y0 y1 y2 y3 y4 y5 y6 y7 y8 y9 y10 y11
  have d0 := HQd.out.hB2.cell 0
  have d1 := HQd.out.hB2.cell 1
  have d2 := HQd.out.hB2.cell 2
  have d3 := HQd.out.hB2.cell 3
  have d4 := HQd.out.hB2.cell 4
  have d5 := HQd.out.hB2.cell 5
  have d6 := HQd.out.hB2.cell 6
  have d7 := HQd.out.hB2.cell 7
  have d8 := HQd.out.hB2.cell 8
  have d9 := HQd.out.hB2.cell 9
  have d10 := HQd.out.hB2.cell 10
  have d11 := HQd.out.hB2.cell 11
  have fd := HQd.out.hB2.frozen
  have ld := HQd.out.hB2.lt
  simp at d0 d1 d2 d3 d4 d5 d6 d7 d8 d9 d10 d11
  have hn := HQd.out.hn.2.2.1
  have hn2 : hm ≠ w.heap.size := fun e => hn e.symm
  cases hd : s3.done with
  | some f =>
    have HV : Hid (sTake s = .error f) := by show _ = _; rw [HT.out]; unfold sEnd; rw [hd]
    rw [hd] at hE
    obtain ⟨_, g', rfl, _⟩ := hE
    have HE2 := HE.out
    rw [hd] at HE2
    have HEf := Lib.hid HE2
    clear HE2 hd
    go_wp2_with fail
    refine bodyPost_ret (v := .tuple #[.agg #[.int .i64 0, .string ⟨#[]⟩, .int .i64 0, .string ⟨#[]⟩, .string ⟨#[]⟩, .int .i64 0, .bool false, .slice none 0 0, .string ⟨#[]⟩, .int .i64 0, .int .i64 0, .string ⟨#[]⟩], (.iface 148 (.pointer (some ⟨g', 0, none⟩)))]) (by simp [results, Tryz.results15, go_sem, ly, y0, y1, y2, y3, y4, y5, y6, y7, y8, y9, y10, y11, fy, hn, hn2]) rfl ?_
    unfold TkOpPost
    rw [HV.out]
    refine rb_err HQd.out HEf.out ?_ fun e1 e2 e3 e4 => ⟨only_pure e2 hgw, _, rfl, e4⟩
    repeat (first | (with_reducible refine Keep.drew ?_) | (with_reducible refine Keep.drewN ?_ _) | (with_reducible refine Keep.alloc ?_ _) | (with_reducible refine Keep.setCell ?_ (by first | (simp; done) | (simp; omega)) _))
    exact Keep.refl _ _
  | none =>
    rw [hd] at hE
    simp only [Er] at hE
    subst hE
    have HT2 : Hid (sTake s = if sMay ⟨k, group, seq, zMsg⟩ = true ∧ (0 : Int) ≤ 7 then .ok ⟨k, group, seq, zMsg⟩ else .error ⟨2, 129, 0⟩) := by show _ = _; rw [HT.out]; unfold sEnd; rw [hd]
    clear hd
    have HMY : Hid (∀ (A' : Option Addr) (n c : Nat) (w : World), Calls Tryz.prog 67 #[.agg #[.int .i64 (k : Nat), .string group, .int .i64 (seq : Nat), .string ⟨#[]⟩, .string ⟨#[]⟩, .int .i64 0, .bool false, .slice A' n c, .string ⟨#[]⟩, .int .i64 0, .int .i64 0, .string ⟨#[]⟩]] w fun e w' => e = .returned (.bool (sMay ⟨k, group, seq, zMsg⟩)) ∧ Pure w w') := fun A' n c w => s_may ⟨k, group, seq, zMsg⟩ A' n c w
    go_wp2_with fail
    refine (HMY.out _ _ _ wd).mono ?_; rintro e wm ⟨rfl, hP⟩
    have HQm := Lib.hid (HQd.out.pure hP)
    have HOm := Lib.hid (hP.own HOd.out fun _ _ hf => hf)
    clear hP y0 y1 y2 y3 y4 y5 y6 y7 y8 y9 y10 y11 fy ly d0 d1 d2 d3 d4 d5 d6 d7 d8 d9 d10 d11 fd ld
    have y0 := HQm.out.hB1.cell 0
    have y1 := HQm.out.hB1.cell 1
    have y2 := HQm.out.hB1.cell 2
    have y3 := HQm.out.hB1.cell 3
    have y4 := HQm.out.hB1.cell 4
    have y5 := HQm.out.hB1.cell 5
    have y6 := HQm.out.hB1.cell 6
    have y7 := HQm.out.hB1.cell 7
    have y8 := HQm.out.hB1.cell 8
    have y9 := HQm.out.hB1.cell 9
    have y10 := HQm.out.hB1.cell 10
    have y11 := HQm.out.hB1.cell 11
    have fy := HQm.out.hB1.frozen
    have ly := HQm.out.hB1.lt
    simp at y0 y1 y2 y3 y4 y5 y6 y7 y8 y9 y10 y11
    have d0 := HQm.out.hB2.cell 0
    have d1 := HQm.out.hB2.cell 1
    have d2 := HQm.out.hB2.cell 2
    have d3 := HQm.out.hB2.cell 3
    have d4 := HQm.out.hB2.cell 4
    have d5 := HQm.out.hB2.cell 5
    have d6 := HQm.out.hB2.cell 6
    have d7 := HQm.out.hB2.cell 7
    have d8 := HQm.out.hB2.cell 8
    have d9 := HQm.out.hB2.cell 9
    have d10 := HQm.out.hB2.cell 10
    have d11 := HQm.out.hB2.cell 11
    have fd := HQm.out.hB2.frozen
    have ld := HQm.out.hB2.lt
    simp at d0 d1 d2 d3 d4 d5 d6 d7 d8 d9 d10 d11
    by_cases hmay : sMay ⟨k, group, seq, zMsg⟩ = true ∧ (0 : Int) ≤ 7
    · obtain ⟨hmy, hfl⟩ := hmay
      have HV : Hid (sTake s = .ok ⟨k, group, seq, zMsg⟩) := by show _ = _; rw [HT2.out, if_pos ⟨hmy, hfl⟩]
      rw [hmy]
      clear hmy
      skip
      go_wp2_with fail
      refine bodyPost_ret (v := .tuple #[.agg #[.int .i64 (k : Nat), .string group, .int .i64 (seq : Nat), .string ⟨#[]⟩, .string ⟨#[]⟩, .int .i64 0, .bool false, .slice none 0 0, .string ⟨#[]⟩, .int .i64 0, .int .i64 0, .string ⟨#[]⟩], .nilIface]) (by simp [results, Tryz.results15, go_sem, ly, y0, y1, y2, y3, y4, y5, y6, y7, y8, y9, y10, y11, fy, hn, hn2]) rfl ?_
      unfold TkOpPost
      rw [HV.out]
      refine rb_ok HQm.out HOm.out HLT.out.1 HLT.out.2 ?_ fun e1 e2 e3 e4 => ⟨only_pure e2 hgw, _, _, rfl, e4, by simp [zMsg]⟩
      repeat (first | (with_reducible refine Keep.drew ?_) | (with_reducible refine Keep.drewN ?_ _) | (with_reducible refine Keep.alloc ?_ _) | (with_reducible refine Keep.setCell ?_ (by first | (simp; done) | (simp; omega)) _))
      exact Keep.refl _ _
    · have HV : Hid (sTake s = .error ⟨2, 129, 0⟩) := by show _ = _; rw [HT2.out, if_neg hmay]
      have hgc := HQm.out.hG.c2
      have HNB : Hid (Blk (wm.alloc (.cells #[.int .i64 129, .int .i64 0, .iface 256 (.pointer (some (σ 2)))] 150)) wm.heap.size 150 #[.int .i64 129, .int .i64 0, .iface 256 (.pointer (some (σ 2)))]) := Blk.new _ _ _
      have HQn := Lib.hid (HQm.out.pure ((Keep.refl _ wm).alloc (.cells #[.int .i64 129, .int .i64 0, .iface 256 (.pointer (some (σ 2)))] 150)))
      have HEn : Hid (Er σ (wm.alloc (.cells #[.int .i64 129, .int .i64 0, .iface 256 (.pointer (some (σ 2)))] 150)) (.iface 148 (.pointer (some ⟨wm.heap.size, 0, none⟩))) (some ⟨2, 129, 0⟩)) := ⟨flt_ok (by omega) (by omega), _, rfl, .base _ _ _ _ HNB.out⟩
      by_cases hmy : sMay ⟨k, group, seq, zMsg⟩ = true
      · have hfl : ¬ (0 : Int) ≤ 7 := fun h => hmay ⟨hmy, h⟩
        exact absurd (by decide) hfl
      · rw [show sMay ⟨k, group, seq, zMsg⟩ = false by simpa using hmy]
        clear hmy hmay
        go_wp2_with fail
        refine (new_any σ 2 129 0 _ (by omega) (by omega)).mono ?_; rintro e wn ⟨gn, rfl, rfl, rfl⟩
        clear y0 y1 y2 y3 y4 y5 y6 y7 y8 y9 y10 y11 fy ly d0 d1 d2 d3 d4 d5 d6 d7 d8 d9 d10 d11 fd ld
        generalize wm.alloc (.cells #[.int .i64 129, .int .i64 0, .iface 256 (.pointer (some (σ 2)))] 150) = wn at *
        generalize wm.heap.size = gn at *
        have y0 := HQn.out.hB1.cell 0
        have y1 := HQn.out.hB1.cell 1
        have y2 := HQn.out.hB1.cell 2
        have y3 := HQn.out.hB1.cell 3
        have y4 := HQn.out.hB1.cell 4
        have y5 := HQn.out.hB1.cell 5
        have y6 := HQn.out.hB1.cell 6
        have y7 := HQn.out.hB1.cell 7
        have y8 := HQn.out.hB1.cell 8
        have y9 := HQn.out.hB1.cell 9
        have y10 := HQn.out.hB1.cell 10
        have y11 := HQn.out.hB1.cell 11
        have fy := HQn.out.hB1.frozen
        have ly := HQn.out.hB1.lt
        simp at y0 y1 y2 y3 y4 y5 y6 y7 y8 y9 y10 y11
        have d0 := HQn.out.hB2.cell 0
        have d1 := HQn.out.hB2.cell 1
        have d2 := HQn.out.hB2.cell 2
        have d3 := HQn.out.hB2.cell 3
        have d4 := HQn.out.hB2.cell 4
        have d5 := HQn.out.hB2.cell 5
        have d6 := HQn.out.hB2.cell 6
        have d7 := HQn.out.hB2.cell 7
        have d8 := HQn.out.hB2.cell 8
        have d9 := HQn.out.hB2.cell 9
        have d10 := HQn.out.hB2.cell 10
        have d11 := HQn.out.hB2.cell 11
        have fd := HQn.out.hB2.frozen
        have ld := HQn.out.hB2.lt
        simp at d0 d1 d2 d3 d4 d5 d6 d7 d8 d9 d10 d11
        go_wp2_with fail
        refine bodyPost_ret (v := .tuple #[.agg #[.int .i64 0, .string ⟨#[]⟩, .int .i64 0, .string ⟨#[]⟩, .string ⟨#[]⟩, .int .i64 0, .bool false, .slice none 0 0, .string ⟨#[]⟩, .int .i64 0, .int .i64 0, .string ⟨#[]⟩], (.iface 148 (.pointer (some ⟨gn, 0, none⟩)))]) (by simp [results, Tryz.results15, go_sem, ly, y0, y1, y2, y3, y4, y5, y6, y7, y8, y9, y10, y11, fy, hn, hn2]) rfl ?_
        unfold TkOpPost
        rw [HV.out]
        refine rb_err HQn.out HEn.out ?_ fun e1 e2 e3 e4 => ⟨only_pure e2 hgw, _, rfl, e4⟩
        repeat (first | (with_reducible refine Keep.drew ?_) | (with_reducible refine Keep.drewN ?_ _) | (with_reducible refine Keep.alloc ?_ _) | (with_reducible refine Keep.setCell ?_ (by first | (simp; done) | (simp; omega)) _))
        exact Keep.refl _ _

set_option maxRecDepth 100000 in
set_option maxHeartbeats 4000000 in
theorem s_take_add (b : Nat) (σ : Nat → Addr) (s : ByteArray) (w : World) (hG : Gl b σ w) (hs : s.size ≤ 140737488351232) (hk :  (((⟨s, 0, none⟩ : RS).num 1).1 = 1)) :
    Calls Tryz.prog 15 #[.string s] w (TkOpPost σ (sTake s) w) := by
  have hbw := hG.size
  have HPa : Hid (Pure w (w.alloc (.cells #[.int .i64 0, .string ⟨#[]⟩, .int .i64 0, .string ⟨#[]⟩, .string ⟨#[]⟩, .int .i64 0, .bool false, .slice none 0 0, .string ⟨#[]⟩, .int .i64 0, .int .i64 0, .string ⟨#[]⟩] 27))) := (Keep.refl _ w).alloc _
  have HBa : Hid (Blk (w.alloc (.cells #[.int .i64 0, .string ⟨#[]⟩, .int .i64 0, .string ⟨#[]⟩, .string ⟨#[]⟩, .int .i64 0, .bool false, .slice none 0 0, .string ⟨#[]⟩, .int .i64 0, .int .i64 0, .string ⟨#[]⟩] 27)) w.heap.size 27 #[.int .i64 0, .string ⟨#[]⟩, .int .i64 0, .string ⟨#[]⟩, .string ⟨#[]⟩, .int .i64 0, .bool false, .slice none 0 0, .string ⟨#[]⟩, .int .i64 0, .int .i64 0, .string ⟨#[]⟩]) := Blk.new _ _ _
  have HGa := Lib.hid (hG.pure HPa.out)
  have HKK := Lib.hid hk
  clear hG hk
  go_enter Tryz.func15, Tryz.ntmps15
  go_wp2_with fail
  generalize w.alloc (.cells #[.int .i64 0, .string ⟨#[]⟩, .int .i64 0, .string ⟨#[]⟩, .string ⟨#[]⟩, .int .i64 0, .bool false, .slice none 0 0, .string ⟨#[]⟩, .int .i64 0, .int .i64 0, .string ⟨#[]⟩] 27) = w1 at *
  refine (new_reader b σ s w1 HGa.out hs).mono ?_; rintro e w2 ⟨g, rfl, hR, hg, hP⟩
  have hgw : w.heap.size ≤ g := by rw [hg]; exact HPa.out.size
  have HR2 := Lib.hid hR
  have HG2 := Lib.hid (HGa.out.pure hP)
  have HP2 : Hid (Only g w w2) := Keep.of_pure (HPa.out.trans hP)
  have HB2 := Lib.hid (hP.blk HBa.out fun hf => hf)
  clear hR hg hP
  have HT0 : Hid (sTake s = sBody (((⟨s, 0, none⟩ : RS).num 1).2.bin.2.num 4).2 ((⟨s, 0, none⟩ : RS).num 1).1 ((⟨s, 0, none⟩ : RS).num 1).2.bin.1 (((⟨s, 0, none⟩ : RS).num 1).2.bin.2.num 4).1) := rfl
  go_wp2_with fail
  refine (r_u8 b σ g _ w2 HG2.out HR2.out).mono ?_; rintro e w3 ⟨rfl, h1, h2⟩
  have HR3 := Lib.hid h1
  have HG3 := Lib.hid (HG2.out.only h2 h1)
  have HP3 := Lib.hid (HP2.out.trans h2)
  have HB3 := Lib.hid (HB2.out.rd h2 HR2.out (by decide))
  clear h1 h2
  generalize ((⟨s, 0, none⟩ : RS).num 1).1 = k at *
  generalize ((⟨s, 0, none⟩ : RS).num 1).2 = s1 at *
  go_wp2_with fail
  refine (r_bin b σ g _ w3 HG3.out HR3.out).mono ?_; rintro e w4 ⟨rfl, h1, h2⟩
  have HR4 := Lib.hid h1
  have HG4 := Lib.hid (HG3.out.only h2 h1)
  have HP4 := Lib.hid (HP3.out.trans h2)
  have HB4 := Lib.hid (HB3.out.rd h2 HR3.out (by decide))
  clear h1 h2
  generalize s1.bin.1 = group at *
  generalize s1.bin.2 = s2 at *
  go_wp2_with fail
  refine (r_u32 b σ g _ w4 HG4.out HR4.out).mono ?_; rintro e w5 ⟨rfl, h1, h2⟩
  have HR5 := Lib.hid h1
  have HG5 := Lib.hid (HG4.out.only h2 h1)
  have HP5 := Lib.hid (HP4.out.trans h2)
  have HB5 := Lib.hid (HB4.out.rd h2 HR4.out (by decide))
  clear h1 h2
  generalize (s2.num 4).1 = seq at *
  generalize (s2.num 4).2 = s3 at *
  have HQ : Hid (RB b σ w g w.heap.size w5.heap.size 27 s3 #[.int .i64 0, .string ⟨#[]⟩, .int .i64 0, .string ⟨#[]⟩, .string ⟨#[]⟩, .int .i64 0, .bool false, .slice none 0 0, .string ⟨#[]⟩, .int .i64 0, .int .i64 0, .string ⟨#[]⟩] #[.int .i64 (k : Nat), .string group, .int .i64 (seq : Nat), .string ⟨#[]⟩, .string ⟨#[]⟩, .int .i64 0, .bool false, .slice none 0 0, .string ⟨#[]⟩, .int .i64 0, .int .i64 0, .string ⟨#[]⟩] (w5.alloc (.cells #[.int .i64 (k : Nat), .string group, .int .i64 (seq : Nat), .string ⟨#[]⟩, .string ⟨#[]⟩, .int .i64 0, .bool false, .slice none 0 0, .string ⟨#[]⟩, .int .i64 0, .int .i64 0, .string ⟨#[]⟩] 27))) := by
    have hk : Pure w5 (w5.alloc (.cells #[.int .i64 (k : Nat), .string group, .int .i64 (seq : Nat), .string ⟨#[]⟩, .string ⟨#[]⟩, .int .i64 0, .bool false, .slice none 0 0, .string ⟨#[]⟩, .int .i64 0, .int .i64 0, .string ⟨#[]⟩] 27)) := (Keep.refl _ w5).alloc _
    have h1 := HP5.out.size
    have h2 := HB5.out.lt
    exact ⟨HG5.out.pure hk, HR5.out.pure hk, hk.blk HB5.out (fun hf => hf), Blk.new _ _ _, HP5.out.trans (Keep.of_pure hk), ⟨Nat.le_refl _, h1, by omega, hbw⟩, by decide, by decide⟩
  obtain rfl : k = 1 := HKK.out
  have HT1 : Hid (sTake s = match (pRead (sRd s3).st 3).1 with
    | .error f => .error f
    | .ok l => sEnd (pRead (sRd s3).st 3).2 ⟨(1 : Nat), group, seq, sMsg (sRd s3) l group seq⟩ (sRd s3).n) := by
    show _ = _
    rw [HT0.out]
    unfold sBody
    rw [if_pos (show ((1 : Nat) : Int) = 1 from rfl)]
    rfl
  have hk1 : (((1 : Nat) : Int) == 1) = true := by decide
  have HQ0 := HQ
  clear HR2 HG2 HP2 HB2 HR3 HG3 HP3 HB3 HR4 HG4 HP4 HB4 HR5 HG5 HP5 HB5 HGa HPa HBa HT0 HKK
  have d0 := HQ.out.hB2.cell 0
  have d1 := HQ.out.hB2.cell 1
  have d2 := HQ.out.hB2.cell 2
  have d3 := HQ.out.hB2.cell 3
  have d4 := HQ.out.hB2.cell 4
  have d5 := HQ.out.hB2.cell 5
  have d6 := HQ.out.hB2.cell 6
  have d7 := HQ.out.hB2.cell 7
  have d8 := HQ.out.hB2.cell 8
  have d9 := HQ.out.hB2.cell 9
  have d10 := HQ.out.hB2.cell 10
  have d11 := HQ.out.hB2.cell 11
  have fd := HQ.out.hB2.frozen
  have ld := HQ.out.hB2.lt
  simp at d0 d1 d2 d3 d4 d5 d6 d7 d8 d9 d10 d11
  go_wp2_with fail
  clear d0 d1 d2 d3 d4 d5 d6 d7 d8 d9 d10 d11 fd ld
  generalize w5.alloc (.cells #[.int .i64 1, .string group, .int .i64 (seq : Nat), .string ⟨#[]⟩, .string ⟨#[]⟩, .int .i64 0, .bool false, .slice none 0 0, .string ⟨#[]⟩, .int .i64 0, .int .i64 0, .string ⟨#[]⟩] 27) = w6 at *
  generalize w5.heap.size = hm at *
  have HLT : Hid (w.heap.size < w6.heap.size ∧ hm < w6.heap.size) := ⟨HQ.out.hB1.lt, HQ.out.hB2.lt⟩
  refine (s_read b σ g s3 group seq w6 HQ.out.hG HQ.out.hR (by have h1 := HLT.out.1; omega)).mono ?_; rintro e w7 ⟨h1, h2, h3, h4⟩
  have HQ7 := Lib.hid (HQ.out.call h1 h2)
  clear h1 h2 h3
  have HXN : Hid ((sRd s3).n < 256) := num_lt _ 1
  generalize sRd s3 = x at *
  generalize hr : pRead x.st 3 = r at *
  obtain ⟨r, s8⟩ := r
  clear hr
  simp only at *
  have y0 := HQ7.out.hB1.cell 0
  have y1 := HQ7.out.hB1.cell 1
  have y2 := HQ7.out.hB1.cell 2
  have y3 := HQ7.out.hB1.cell 3
  have y4 := HQ7.out.hB1.cell 4
  have y5 := HQ7.out.hB1.cell 5
  have y6 := HQ7.out.hB1.cell 6
  have y7 := HQ7.out.hB1.cell 7
  have y8 := HQ7.out.hB1.cell 8
  have y9 := HQ7.out.hB1.cell 9
  have y10 := HQ7.out.hB1.cell 10
  have y11 := HQ7.out.hB1.cell 11
  have fy := HQ7.out.hB1.frozen
  have ly := HQ7.out.hB1.lt
  simp at y0 y1 y2 y3 y4 y5 y6 y7 y8 y9 y10 y11
  have d0 := HQ7.out.hB2.cell 0
  have d1 := HQ7.out.hB2.cell 1
  have d2 := HQ7.out.hB2.cell 2
  have d3 := HQ7.out.hB2.cell 3
  have d4 := HQ7.out.hB2.cell 4
  have d5 := HQ7.out.hB2.cell 5
  have d6 := HQ7.out.hB2.cell 6
  have d7 := HQ7.out.hB2.cell 7
  have d8 := HQ7.out.hB2.cell 8
  have d9 := HQ7.out.hB2.cell 9
  have d10 := HQ7.out.hB2.cell 10
  have d11 := HQ7.out.hB2.cell 11
  have fd := HQ7.out.hB2.frozen
  have ld := HQ7.out.hB2.lt
  simp at d0 d1 d2 d3 d4 d5 d6 d7 d8 d9 d10 d11
  have hn := HQ7.out.hn.2.2.1
  have hn2 : hm ≠ w.heap.size := fun e => hn e.symm
  cases r with
  | error f =>
    simp only at h4
    obtain ⟨v, rfl, hE⟩ := h4
    have HE := Lib.hid hE
    obtain ⟨_, g', rfl, _⟩ := hE
    have HV : Hid (sTake s = .error f) := HT1.out
    simp only [msgCells, sMsg]
    go_wp2_with fail
    refine bodyPost_ret (v := .tuple #[.agg #[.int .i64 0, .string ⟨#[]⟩, .int .i64 0, .string ⟨#[]⟩, .string ⟨#[]⟩, .int .i64 0, .bool false, .slice none 0 0, .string ⟨#[]⟩, .int .i64 0, .int .i64 0, .string ⟨#[]⟩], (.iface 148 (.pointer (some ⟨g', 0, none⟩)))]) (by simp [results, Tryz.results15, go_sem, ly, y0, y1, y2, y3, y4, y5, y6, y7, y8, y9, y10, y11, fy, hn, hn2]) rfl ?_
    unfold TkOpPost
    rw [HV.out]
    refine rb_err HQ7.out HE.out ?_ fun e1 e2 e3 e4 => ⟨only_pure e2 hgw, _, rfl, e4⟩
    repeat (first | (with_reducible refine Keep.drew ?_) | (with_reducible refine Keep.drewN ?_ _) | (with_reducible refine Keep.alloc ?_ _) | (with_reducible refine Keep.setCell ?_ (by first | (simp; done) | (simp; omega)) _))
    exact Keep.refl _ _
  | ok l =>
    simp only at h4
    obtain ⟨A, c, rfl, ho, hl⟩ := h4
    have HO := Lib.hid ho
    clear ho
    have HT : Hid (sTake s = sEnd s8 ⟨(1 : Nat), group, seq, sMsg x l group seq⟩ x.n) := HT1.out
    simp only [msgCells, sMsg]
    go_wp2_with fail
    clear y0 y1 y2 y3 y4 y5 y6 y7 y8 y9 y10 y11 fy ly d0 d1 d2 d3 d4 d5 d6 d7 d8 d9 d10 d11 fd ld
    have HK8 : Hid (Keep (fun i => i = hm) w7 ((((((((((w7.setCell ⟨hm, 3, none⟩ (.string x.topic)).setCell ⟨hm, 4, none⟩ (.string x.payload)).setCell ⟨hm, 5, none⟩ (.int .i64 ((x.n : Int) % 4))).setCell ⟨hm, 6, none⟩ (.bool (decide (x.n / 4 % 2 = 1)))).setCell ⟨hm, 7, none⟩ (.slice A l.length c)).setCell ⟨hm, 8, none⟩ (.string x.from_)).setCell ⟨hm, 9, none⟩ (.int .i64 (wrap64 ((x.hi : Int) * 4294967296 + x.lo)))).setCell ⟨hm, 10, none⟩ (.int .i64 (seq : Nat))).setCell ⟨hm, 11, none⟩ (.string group)).alloc (.cells #[.string x.topic, .string x.payload, .int .i64 ((x.n : Int) % 4), .bool (decide (x.n / 4 % 2 = 1)), .slice A l.length c, .string x.from_, .int .i64 (wrap64 ((x.hi : Int) * 4294967296 + x.lo)), .int .i64 (seq : Nat), .string group] 25))) := by
      show Keep _ _ _
      repeat (first | (with_reducible refine Keep.drew ?_) | (with_reducible refine Keep.drewN ?_ _) | (with_reducible refine Keep.alloc ?_ _) | (with_reducible refine Keep.setCell ?_ (by first | (simp; done) | (simp; omega)) _))
      exact Keep.refl _ _
    have HO8 := Lib.hid (HK8.out.own HO.out fun i hi hs => by
      have h1 := own_ge HO.out i hi
      have h2 := HLT.out.2
      omega)
    have HQ8 : Hid (RB b σ w g w.heap.size hm 27 s8 #[.int .i64 0, .string ⟨#[]⟩, .int .i64 0, .string ⟨#[]⟩, .string ⟨#[]⟩, .int .i64 0, .bool false, .slice none 0 0, .string ⟨#[]⟩, .int .i64 0, .int .i64 0, .string ⟨#[]⟩] #[.int .i64 1, .string group, .int .i64 (seq : Nat), .string x.topic, .string x.payload, .int .i64 ((x.n : Int) % 4), .bool (decide (x.n / 4 % 2 = 1)), .slice A l.length c, .string x.from_, .int .i64 (wrap64 ((x.hi : Int) * 4294967296 + x.lo)), .int .i64 (seq : Nat), .string group] ((((((((((w7.setCell ⟨hm, 3, none⟩ (.string x.topic)).setCell ⟨hm, 4, none⟩ (.string x.payload)).setCell ⟨hm, 5, none⟩ (.int .i64 ((x.n : Int) % 4))).setCell ⟨hm, 6, none⟩ (.bool (decide (x.n / 4 % 2 = 1)))).setCell ⟨hm, 7, none⟩ (.slice A l.length c)).setCell ⟨hm, 8, none⟩ (.string x.from_)).setCell ⟨hm, 9, none⟩ (.int .i64 (wrap64 ((x.hi : Int) * 4294967296 + x.lo)))).setCell ⟨hm, 10, none⟩ (.int .i64 (seq : Nat))).setCell ⟨hm, 11, none⟩ (.string group)).alloc (.cells #[.string x.topic, .string x.payload, .int .i64 ((x.n : Int) % 4), .bool (decide (x.n / 4 % 2 = 1)), .slice A l.length c, .string x.from_, .int .i64 (wrap64 ((x.hi : Int) * 4294967296 + x.lo)), .int .i64 (seq : Nat), .string group] 25))) := by
      have h := (((((((((HQ7.out.set 3 (.string x.topic)).set 4 (.string x.payload)).set 5 (.int .i64 ((x.n : Int) % 4))).set 6 (.bool (decide (x.n / 4 % 2 = 1)))).set 7 (.slice A l.length c)).set 8 (.string x.from_)).set 9 (.int .i64 (wrap64 ((x.hi : Int) * 4294967296 + x.lo)))).set 10 (.int .i64 (seq : Nat))).set 11 (.string group))
      have h2 := h.pure ((Keep.refl _ _).alloc (.cells #[.string x.topic, .string x.payload, .int .i64 ((x.n : Int) % 4), .bool (decide (x.n / 4 % 2 = 1)), .slice A l.length c, .string x.from_, .int .i64 (wrap64 ((x.hi : Int) * 4294967296 + x.lo)), .int .i64 (seq : Nat), .string group] 25))
      show RB _ _ _ _ _ _ _ _ _ _ _
      simpa using h2
    generalize (((((((((w7.setCell ⟨hm, 3, none⟩ (.string x.topic)).setCell ⟨hm, 4, none⟩ (.string x.payload)).setCell ⟨hm, 5, none⟩ (.int .i64 ((x.n : Int) % 4))).setCell ⟨hm, 6, none⟩ (.bool (decide (x.n / 4 % 2 = 1)))).setCell ⟨hm, 7, none⟩ (.slice A l.length c)).setCell ⟨hm, 8, none⟩ (.string x.from_)).setCell ⟨hm, 9, none⟩ (.int .i64 (wrap64 ((x.hi : Int) * 4294967296 + x.lo)))).setCell ⟨hm, 10, none⟩ (.int .i64 (seq : Nat))).setCell ⟨hm, 11, none⟩ (.string group)).alloc (.cells #[.string x.topic, .string x.payload, .int .i64 ((x.n : Int) % 4), .bool (decide (x.n / 4 % 2 = 1)), .slice A l.length c, .string x.from_, .int .i64 (wrap64 ((x.hi : Int) * 4294967296 + x.lo)), .int .i64 (seq : Nat), .string group] 25) = w8 at *
    clear HK8
    have hx7 : (x.n : Int) ≤ 9223372036854775807 := by have h := HXN.out; omega
    refine (r_done b σ g _ w8 HQ8.out.hG HQ8.out.hR).mono ?_; rintro e wd ⟨vd, rfl, hE, hP⟩
    have HQd := Lib.hid (HQ8.out.pure hP)
    have HOd := Lib.hid (hP.own HO8.out fun _ _ hf => hf)
    have HE := Lib.hid hE
    clear hP
    have y0 := HQd.out.hB1.cell 0
    have y1 := HQd.out.hB1.cell 1
    have y2 := HQd.out.hB1.cell 2
    have y3 := HQd.out.hB1.cell 3
    have y4 := HQd.out.hB1.cell 4
    have y5 := HQd.out.hB1.cell 5
    have y6 := HQd.out.hB1.cell 6
    have y7 := HQd.out.hB1.cell 7
    have y8 := HQd.out.hB1.cell 8
    have y9 := HQd.out.hB1.cell 9
    have y10 := HQd.out.hB1.cell 10
    have y11 := HQd.out.hB1.cell 11
    have fy := HQd.out.hB1.frozen
    have ly := HQd.out.hB1.lt
    simp at y0 y1 y2 y3 y4 y5 y6 y7 y8 y9 y10 y11
    have d0 := HQd.out.hB2.cell 0
    have d1 := HQd.out.hB2.cell 1
    have d2 := HQd.out.hB2.cell 2
    have d3 := HQd.out.hB2.cell 3
    have d4 := HQd.out.hB2.cell 4
    have d5 := HQd.out.hB2.cell 5
    have d6 := HQd.out.hB2.cell 6
    have d7 := HQd.out.hB2.cell 7
    have d8 := HQd.out.hB2.cell 8
    have d9 := HQd.out.hB2.cell 9
    have d10 := HQd.out.hB2.cell 10
    have d11 := HQd.out.hB2.cell 11
    have fd := HQd.out.hB2.frozen
    have ld := HQd.out.hB2.lt
    simp at d0 d1 d2 d3 d4 d5 d6 d7 d8 d9 d10 d11
    have hn := HQd.out.hn.2.2.1
    have hn2 : hm ≠ w.heap.size := fun e => hn e.symm
    cases hd : s8.done with
    | some f =>
      have HV : Hid (sTake s = .error f) := by show _ = _; rw [HT.out]; unfold sEnd; rw [hd]
      rw [hd] at hE
      obtain ⟨_, g', rfl, _⟩ := hE
      have HE2 := HE.out
      rw [hd] at HE2
      have HEf := Lib.hid HE2
      clear HE2 hd
      go_wp2_with fail
      refine bodyPost_ret (v := .tuple #[.agg #[.int .i64 0, .string ⟨#[]⟩, .int .i64 0, .string ⟨#[]⟩, .string ⟨#[]⟩, .int .i64 0, .bool false, .slice none 0 0, .string ⟨#[]⟩, .int .i64 0, .int .i64 0, .string ⟨#[]⟩], (.iface 148 (.pointer (some ⟨g', 0, none⟩)))]) (by simp [results, Tryz.results15, go_sem, ly, y0, y1, y2, y3, y4, y5, y6, y7, y8, y9, y10, y11, fy, hn, hn2]) rfl ?_
      unfold TkOpPost
      rw [HV.out]
      refine rb_err HQd.out HEf.out ?_ fun e1 e2 e3 e4 => ⟨only_pure e2 hgw, _, rfl, e4⟩
      repeat (first | (with_reducible refine Keep.drew ?_) | (with_reducible refine Keep.drewN ?_ _) | (with_reducible refine Keep.alloc ?_ _) | (with_reducible refine Keep.setCell ?_ (by first | (simp; done) | (simp; omega)) _))
      exact Keep.refl _ _
    | none =>
      rw [hd] at hE
      simp only [Er] at hE
      subst hE
      have HT2 : Hid (sTake s = if sMay ⟨(1 : Nat), group, seq, sMsg x l group seq⟩ = true ∧ (x.n : Int) ≤ 7 then .ok ⟨(1 : Nat), group, seq, sMsg x l group seq⟩ else .error ⟨2, 129, 0⟩) := by show _ = _; rw [HT.out]; unfold sEnd; rw [hd]
      clear hd
      have HMY : Hid (∀ (A' : Option Addr) (n c : Nat) (w : World), Calls Tryz.prog 67 #[.agg #[.int .i64 1, .string group, .int .i64 (seq : Nat), .string x.topic, .string x.payload, .int .i64 ((x.n : Int) % 4), .bool (decide (x.n / 4 % 2 = 1)), .slice A' n c, .string x.from_, .int .i64 (wrap64 ((x.hi : Int) * 4294967296 + x.lo)), .int .i64 (seq : Nat), .string group]] w fun e w' => e = .returned (.bool (sMay ⟨(1 : Nat), group, seq, sMsg x l group seq⟩)) ∧ Pure w w') := fun A' n c w => s_may ⟨(1 : Nat), group, seq, sMsg x l group seq⟩ A' n c w
      go_wp2_with fail
      refine (HMY.out _ _ _ wd).mono ?_; rintro e wm ⟨rfl, hP⟩
      have HQm := Lib.hid (HQd.out.pure hP)
      have HOm := Lib.hid (hP.own HOd.out fun _ _ hf => hf)
      clear hP y0 y1 y2 y3 y4 y5 y6 y7 y8 y9 y10 y11 fy ly d0 d1 d2 d3 d4 d5 d6 d7 d8 d9 d10 d11 fd ld
      have y0 := HQm.out.hB1.cell 0
      have y1 := HQm.out.hB1.cell 1
      have y2 := HQm.out.hB1.cell 2
      have y3 := HQm.out.hB1.cell 3
      have y4 := HQm.out.hB1.cell 4
      have y5 := HQm.out.hB1.cell 5
      have y6 := HQm.out.hB1.cell 6
      have y7 := HQm.out.hB1.cell 7
      have y8 := HQm.out.hB1.cell 8
      have y9 := HQm.out.hB1.cell 9
      have y10 := HQm.out.hB1.cell 10
      have y11 := HQm.out.hB1.cell 11
      have fy := HQm.out.hB1.frozen
      have ly := HQm.out.hB1.lt
      simp at y0 y1 y2 y3 y4 y5 y6 y7 y8 y9 y10 y11
      have d0 := HQm.out.hB2.cell 0
      have d1 := HQm.out.hB2.cell 1
      have d2 := HQm.out.hB2.cell 2
      have d3 := HQm.out.hB2.cell 3
      have d4 := HQm.out.hB2.cell 4
      have d5 := HQm.out.hB2.cell 5
      have d6 := HQm.out.hB2.cell 6
      have d7 := HQm.out.hB2.cell 7
      have d8 := HQm.out.hB2.cell 8
      have d9 := HQm.out.hB2.cell 9
      have d10 := HQm.out.hB2.cell 10
      have d11 := HQm.out.hB2.cell 11
      have fd := HQm.out.hB2.frozen
      have ld := HQm.out.hB2.lt
      simp at d0 d1 d2 d3 d4 d5 d6 d7 d8 d9 d10 d11
      by_cases hmay : sMay ⟨(1 : Nat), group, seq, sMsg x l group seq⟩ = true ∧ (x.n : Int) ≤ 7
      · obtain ⟨hmy, hfl⟩ := hmay
        have HV : Hid (sTake s = .ok ⟨(1 : Nat), group, seq, sMsg x l group seq⟩) := by show _ = _; rw [HT2.out, if_pos ⟨hmy, hfl⟩]
        rw [hmy]
        clear hmy
        skip
        go_wp2_with fail
        refine bodyPost_ret (v := .tuple #[.agg #[.int .i64 1, .string group, .int .i64 (seq : Nat), .string x.topic, .string x.payload, .int .i64 ((x.n : Int) % 4), .bool (decide (x.n / 4 % 2 = 1)), .slice A l.length c, .string x.from_, .int .i64 (wrap64 ((x.hi : Int) * 4294967296 + x.lo)), .int .i64 (seq : Nat), .string group], .nilIface]) (by simp [results, Tryz.results15, go_sem, ly, y0, y1, y2, y3, y4, y5, y6, y7, y8, y9, y10, y11, fy, hn, hn2]) rfl ?_
        unfold TkOpPost
        rw [HV.out]
        refine rb_ok HQm.out HOm.out HLT.out.1 HLT.out.2 ?_ fun e1 e2 e3 e4 => ⟨only_pure e2 hgw, _, _, rfl, e4, hl⟩
        repeat (first | (with_reducible refine Keep.drew ?_) | (with_reducible refine Keep.drewN ?_ _) | (with_reducible refine Keep.alloc ?_ _) | (with_reducible refine Keep.setCell ?_ (by first | (simp; done) | (simp; omega)) _))
        exact Keep.refl _ _
      · have HV : Hid (sTake s = .error ⟨2, 129, 0⟩) := by show _ = _; rw [HT2.out, if_neg hmay]
        have hgc := HQm.out.hG.c2
        have HNB : Hid (Blk (wm.alloc (.cells #[.int .i64 129, .int .i64 0, .iface 256 (.pointer (some (σ 2)))] 150)) wm.heap.size 150 #[.int .i64 129, .int .i64 0, .iface 256 (.pointer (some (σ 2)))]) := Blk.new _ _ _
        have HQn := Lib.hid (HQm.out.pure ((Keep.refl _ wm).alloc (.cells #[.int .i64 129, .int .i64 0, .iface 256 (.pointer (some (σ 2)))] 150)))
        have HEn : Hid (Er σ (wm.alloc (.cells #[.int .i64 129, .int .i64 0, .iface 256 (.pointer (some (σ 2)))] 150)) (.iface 148 (.pointer (some ⟨wm.heap.size, 0, none⟩))) (some ⟨2, 129, 0⟩)) := ⟨flt_ok (by omega) (by omega), _, rfl, .base _ _ _ _ HNB.out⟩
        by_cases hmy : sMay ⟨(1 : Nat), group, seq, sMsg x l group seq⟩ = true
        · have hfl : ¬ (x.n : Int) ≤ 7 := fun h => hmay ⟨hmy, h⟩
          rw [hmy]
          skip
          clear hmy hmay
          go_wp2_with fail
          refine (new_any σ 2 129 0 _ (by omega) (by omega)).mono ?_; rintro e wn ⟨gn, rfl, rfl, rfl⟩
          clear y0 y1 y2 y3 y4 y5 y6 y7 y8 y9 y10 y11 fy ly d0 d1 d2 d3 d4 d5 d6 d7 d8 d9 d10 d11 fd ld
          generalize wm.alloc (.cells #[.int .i64 129, .int .i64 0, .iface 256 (.pointer (some (σ 2)))] 150) = wn at *
          generalize wm.heap.size = gn at *
          have y0 := HQn.out.hB1.cell 0
          have y1 := HQn.out.hB1.cell 1
          have y2 := HQn.out.hB1.cell 2
          have y3 := HQn.out.hB1.cell 3
          have y4 := HQn.out.hB1.cell 4
          have y5 := HQn.out.hB1.cell 5
          have y6 := HQn.out.hB1.cell 6
          have y7 := HQn.out.hB1.cell 7
          have y8 := HQn.out.hB1.cell 8
          have y9 := HQn.out.hB1.cell 9
          have y10 := HQn.out.hB1.cell 10
          have y11 := HQn.out.hB1.cell 11
          have fy := HQn.out.hB1.frozen
          have ly := HQn.out.hB1.lt
          simp at y0 y1 y2 y3 y4 y5 y6 y7 y8 y9 y10 y11
          have d0 := HQn.out.hB2.cell 0
          have d1 := HQn.out.hB2.cell 1
          have d2 := HQn.out.hB2.cell 2
          have d3 := HQn.out.hB2.cell 3
          have d4 := HQn.out.hB2.cell 4
          have d5 := HQn.out.hB2.cell 5
          have d6 := HQn.out.hB2.cell 6
          have d7 := HQn.out.hB2.cell 7
          have d8 := HQn.out.hB2.cell 8
          have d9 := HQn.out.hB2.cell 9
          have d10 := HQn.out.hB2.cell 10
          have d11 := HQn.out.hB2.cell 11
          have fd := HQn.out.hB2.frozen
          have ld := HQn.out.hB2.lt
          simp at d0 d1 d2 d3 d4 d5 d6 d7 d8 d9 d10 d11
          go_wp2_with fail
          refine bodyPost_ret (v := .tuple #[.agg #[.int .i64 0, .string ⟨#[]⟩, .int .i64 0, .string ⟨#[]⟩, .string ⟨#[]⟩, .int .i64 0, .bool false, .slice none 0 0, .string ⟨#[]⟩, .int .i64 0, .int .i64 0, .string ⟨#[]⟩], (.iface 148 (.pointer (some ⟨gn, 0, none⟩)))]) (by simp [results, Tryz.results15, go_sem, ly, y0, y1, y2, y3, y4, y5, y6, y7, y8, y9, y10, y11, fy, hn, hn2]) rfl ?_
          unfold TkOpPost
          rw [HV.out]
          refine rb_err HQn.out HEn.out ?_ fun e1 e2 e3 e4 => ⟨only_pure e2 hgw, _, rfl, e4⟩
          repeat (first | (with_reducible refine Keep.drew ?_) | (with_reducible refine Keep.drewN ?_ _) | (with_reducible refine Keep.alloc ?_ _) | (with_reducible refine Keep.setCell ?_ (by first | (simp; done) | (simp; omega)) _))
          exact Keep.refl _ _
        · rw [show sMay ⟨(1 : Nat), group, seq, sMsg x l group seq⟩ = false by simpa using hmy]
          clear hmy hmay
          go_wp2_with fail
          refine (new_any σ 2 129 0 _ (by omega) (by omega)).mono ?_; rintro e wn ⟨gn, rfl, rfl, rfl⟩
          clear y0 y1 y2 y3 y4 y5 y6 y7 y8 y9 y10 y11 fy ly d0 d1 d2 d3 d4 d5 d6 d7 d8 d9 d10 d11 fd ld
          generalize wm.alloc (.cells #[.int .i64 129, .int .i64 0, .iface 256 (.pointer (some (σ 2)))] 150) = wn at *
          generalize wm.heap.size = gn at *
          have y0 := HQn.out.hB1.cell 0
          have y1 := HQn.out.hB1.cell 1
          have y2 := HQn.out.hB1.cell 2
          have y3 := HQn.out.hB1.cell 3
          have y4 := HQn.out.hB1.cell 4
          have y5 := HQn.out.hB1.cell 5
          have y6 := HQn.out.hB1.cell 6
          have y7 := HQn.out.hB1.cell 7
          have y8 := HQn.out.hB1.cell 8
          have y9 := HQn.out.hB1.cell 9
          have y10 := HQn.out.hB1.cell 10
          have y11 := HQn.out.hB1.cell 11
          have fy := HQn.out.hB1.frozen
          have ly := HQn.out.hB1.lt
          simp at y0 y1 y2 y3 y4 y5 y6 y7 y8 y9 y10 y11
          have d0 := HQn.out.hB2.cell 0
          have d1 := HQn.out.hB2.cell 1
          have d2 := HQn.out.hB2.cell 2
          have d3 := HQn.out.hB2.cell 3
          have d4 := HQn.out.hB2.cell 4
          have d5 := HQn.out.hB2.cell 5
          have d6 := HQn.out.hB2.cell 6
          have d7 := HQn.out.hB2.cell 7
          have d8 := HQn.out.hB2.cell 8
          have d9 := HQn.out.hB2.cell 9
          have d10 := HQn.out.hB2.cell 10
          have d11 := HQn.out.hB2.cell 11
          have fd := HQn.out.hB2.frozen
          have ld := HQn.out.hB2.lt
          simp at d0 d1 d2 d3 d4 d5 d6 d7 d8 d9 d10 d11
          go_wp2_with fail
          refine bodyPost_ret (v := .tuple #[.agg #[.int .i64 0, .string ⟨#[]⟩, .int .i64 0, .string ⟨#[]⟩, .string ⟨#[]⟩, .int .i64 0, .bool false, .slice none 0 0, .string ⟨#[]⟩, .int .i64 0, .int .i64 0, .string ⟨#[]⟩], (.iface 148 (.pointer (some ⟨gn, 0, none⟩)))]) (by simp [results, Tryz.results15, go_sem, ly, y0, y1, y2, y3, y4, y5, y6, y7, y8, y9, y10, y11, fy, hn, hn2]) rfl ?_
          unfold TkOpPost
          rw [HV.out]
          refine rb_err HQn.out HEn.out ?_ fun e1 e2 e3 e4 => ⟨only_pure e2 hgw, _, rfl, e4⟩
          repeat (first | (with_reducible refine Keep.drew ?_) | (with_reducible refine Keep.drewN ?_ _) | (with_reducible refine Keep.alloc ?_ _) | (with_reducible refine Keep.setCell ?_ (by first | (simp; done) | (simp; omega)) _))
          exact Keep.refl _ _

theorem s_take (b : Nat) (σ : Nat → Addr) (s : ByteArray) (w : World) (hG : Gl b σ w) (hs : s.size ≤ 140737488351232) :
    Calls Tryz.prog 15 #[.string s] w (TkOpPost σ (sTake s) w) := by
  by_cases hk : ((⟨s, 0, none⟩ : RS).num 1).1 = 1
  · exact s_take_add b σ s w hG hs hk
  · exact s_take_rest b σ s w hG hs hk
end Go.Proofs.YthokkjdolcfhcaaGreatDoor

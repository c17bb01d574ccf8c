/- The reference's record: Take. -/
import Derived.Test.YthokkjdolcfhcaaGreatDoorMo

set_option linter.unusedVariables false
namespace Go.Proofs.YthokkjdolcfhcaaGreatDoor
open Go.RowKit

def QtPost (x : Except Flt SOp) (w : World) (e : Ending) (w' : World) : Prop :=
  Pure w w' ∧ match x with
  | .error f => e = .returned (.tuple #[.agg (opCells zOp (.slice none 0 0)), fltVal f.k f.r f.a])
  | .ok o => ∃ A c, e = .returned (.tuple #[.agg (opCells o (.slice A o.msg.props.length c)), fltVal 0 0 0]) ∧ w'.ownsRow w.heap.size 152 4 (.slice A o.msg.props.length c) o.msg.props.length (prRow o.msg.props) ∧ o.msg.props.length ≤ 64
/-- what ref34.Take stands on -/
structure RQ (w0 : World) (g rb rf hm : Nat) (st : RS) (c : Array Value) (w : World) : Prop where
  hR : Rf w g st
  hB1 : Blk w rb 27 #[.int .i64 0, .string ⟨#[]⟩, .int .i64 0, .string ⟨#[]⟩, .string ⟨#[]⟩, .int .i64 0, .bool false, .slice none 0 0, .string ⟨#[]⟩, .int .i64 0, .int .i64 0, .string ⟨#[]⟩]
  hB2 : Blk w rf 34 #[.int .i64 0, .int .i64 0, .int .i64 0]
  hB3 : Blk w hm 27 c
  hk : Pure w0 w
  hn : w0.heap.size ≤ g ∧ w0.heap.size ≤ rb ∧ w0.heap.size ≤ rf ∧ w0.heap.size ≤ hm ∧ rb ≠ hm
section
variable {w0 w w' : World} {g rb rf hm : Nat} {st st' : RS} {c : Array Value}
theorem RQ.call (h : RQ w0 g rb rf hm st c w) (hR' : Rf w' g st') (k : Only g w w') : RQ w0 g rb rf hm st' c w' :=
  ⟨hR', h.hB1.rf k h.hR (by decide), h.hB2.rf k h.hR (by decide), h.hB3.rf k h.hR (by decide), h.hk.seq k (fun i hi => .inr (by have := h.hn; omega)), h.hn⟩
theorem RQ.pure (h : RQ w0 g rb rf hm st c w) (k : Pure w w') : RQ w0 g rb rf hm st c w' :=
  ⟨h.hR.pure k, k.blk h.hB1 (fun hf => hf), k.blk h.hB2 (fun hf => hf), k.blk h.hB3 (fun hf => hf), h.hk.trans k, h.hn⟩
theorem RQ.set (h : RQ w0 g rb rf hm st c w) (i : Nat) (u : Value) : RQ w0 g rb rf hm st (c.setIfInBounds i u) (w.setCell ⟨hm, i, none⟩ u) := by
  have k : Keep (fun i => i = hm) w (w.setCell ⟨hm, i, none⟩ u) := (Keep.refl (fun i => i = hm) w).setCell (.inl rfl) u
  have hn := h.hn
  exact ⟨h.hR.keep k 27 (by decide) (fun j hj => by subst hj; exact ⟨_, h.hB3⟩), k.blk h.hB1 (fun e => hn.2.2.2.2 e), k.blk h.hB2 (fun e => by subst e; exact Blk.ne_ h.hB3 h.hB2 (by decide) rfl), h.hB3.set_ i u, h.hk.seq k (fun j hj => .inr (by omega)), hn⟩
theorem RQ.nes (h : RQ w0 g rb rf hm st c w) : rb ≠ hm ∧ hm ≠ rb ∧ rb ≠ rf ∧ rf ≠ rb ∧ rf ≠ hm ∧ hm ≠ rf :=
  ⟨h.hn.2.2.2.2, fun e => h.hn.2.2.2.2 e.symm, Blk.ne_ h.hB1 h.hB2 (by decide), Blk.ne_ h.hB2 h.hB1 (by decide), Blk.ne_ h.hB2 h.hB3 (by decide), Blk.ne_ h.hB3 h.hB2 (by decide)⟩
theorem rq_err {C : Prop} (h : RQ w0 g rb rf hm st c w) (k : Keep (fun i => i = rb ∨ i = rf) w w') (hC : Pure w0 w' → C) : C :=
  hC (h.hk.seq k fun j hj => .inr (by have := h.hn; omega))
theorem rq_ok {base e n : Nat} {v : Value} {xs : List Value} {size : Nat} {C : Prop} (h : RQ w0 g rb rf hm st c w) (hO : w.ownsRow base e size v n xs) (h1 : rb < base) (h2 : rf < base) (k : Keep (fun i => i = rb ∨ i = rf) w w') (hC : Pure w0 w' → w'.ownsRow w0.heap.size e size v n xs → C) : C := by
  refine hC (h.hk.seq k fun j hj => .inr (by have := h.hn; omega)) (own_low (k.own hO fun i hi hs => ?_) (by have := h.hn; omega))
  have := own_ge hO i hi
  omega
end
theorem done_ok {st : RS} {f : Flt} (h : st.OkE) (hd : st.done = some f) : f.r = 129 ∧ 1 ≤ f.k ∧ f.k ≤ 7 := by
  rcases done_eq st with ⟨_, _, e⟩ | ⟨_, e⟩
  · rw [e] at hd; cases hd; simp
  · rw [e] at hd; have := h f hd; exact ⟨this.1, this.2.1, this.2.2.1⟩
theorem div_four (n : Nat) : (((n : Int) / 4 % 2) == 1) = decide (n / 4 % 2 = 1) := by
  rw [Bool.eq_iff_iff]
  simp
  omega
theorem until_add (hi lo : Nat) : wrap64 (wrap64 ((hi : Int) * 4294967296) + (lo : Int)) = wrap64 ((hi : Int) * 4294967296 + lo) := by
  unfold wrap64
  omega

set_option maxRecDepth 100000 in
set_option maxHeartbeats 4000000 in
theorem q_take_rest (s : ByteArray) (w : World) (hs : s.size ≤ 140737488351232) (hk : ¬ (((⟨s, 0, none⟩ : RS).num 1).1 = 1)) :
    Calls Tryz.prog 16 #[.string s] w (QtPost (sTake s) w) := by
  have HKK := Lib.hid hk
  clear hk
  have HT0 : Hid (sTake s = sBody (((⟨s, 0, none⟩ : RS).num 1).2.bin.2.num 4).2 ((⟨s, 0, none⟩ : RS).num 1).1 ((⟨s, 0, none⟩ : RS).num 1).2.bin.1 (((⟨s, 0, none⟩ : RS).num 1).2.bin.2.num 4).1) := rfl
  have HW : Hid (Blk (((w.alloc (.cells #[.int .i64 0, .string ⟨#[]⟩, .int .i64 0, .string ⟨#[]⟩, .string ⟨#[]⟩, .int .i64 0, .bool false, .slice none 0 0, .string ⟨#[]⟩, .int .i64 0, .int .i64 0, .string ⟨#[]⟩] 27)).alloc (.cells #[.int .i64 0, .int .i64 0, .int .i64 0] 34)).alloc (.cells #[.string s, .int .i64 0, .int .i64 0, .int .i64 0] 88)) w.heap.size 27 #[.int .i64 0, .string ⟨#[]⟩, .int .i64 0, .string ⟨#[]⟩, .string ⟨#[]⟩, .int .i64 0, .bool false, .slice none 0 0, .string ⟨#[]⟩, .int .i64 0, .int .i64 0, .string ⟨#[]⟩] ∧
      Blk (((w.alloc (.cells #[.int .i64 0, .string ⟨#[]⟩, .int .i64 0, .string ⟨#[]⟩, .string ⟨#[]⟩, .int .i64 0, .bool false, .slice none 0 0, .string ⟨#[]⟩, .int .i64 0, .int .i64 0, .string ⟨#[]⟩] 27)).alloc (.cells #[.int .i64 0, .int .i64 0, .int .i64 0] 34)).alloc (.cells #[.string s, .int .i64 0, .int .i64 0, .int .i64 0] 88)) (w.heap.size + 1) 34 #[.int .i64 0, .int .i64 0, .int .i64 0] ∧
      Rf (((w.alloc (.cells #[.int .i64 0, .string ⟨#[]⟩, .int .i64 0, .string ⟨#[]⟩, .string ⟨#[]⟩, .int .i64 0, .bool false, .slice none 0 0, .string ⟨#[]⟩, .int .i64 0, .int .i64 0, .string ⟨#[]⟩] 27)).alloc (.cells #[.int .i64 0, .int .i64 0, .int .i64 0] 34)).alloc (.cells #[.string s, .int .i64 0, .int .i64 0, .int .i64 0] 88)) (w.heap.size + 1 + 1) ⟨s, 0, none⟩ ∧
      Pure w (((w.alloc (.cells #[.int .i64 0, .string ⟨#[]⟩, .int .i64 0, .string ⟨#[]⟩, .string ⟨#[]⟩, .int .i64 0, .bool false, .slice none 0 0, .string ⟨#[]⟩, .int .i64 0, .int .i64 0, .string ⟨#[]⟩] 27)).alloc (.cells #[.int .i64 0, .int .i64 0, .int .i64 0] 34)).alloc (.cells #[.string s, .int .i64 0, .int .i64 0, .int .i64 0] 88))) := by
    have e1 : (w.alloc (.cells #[.int .i64 0, .string ⟨#[]⟩, .int .i64 0, .string ⟨#[]⟩, .string ⟨#[]⟩, .int .i64 0, .bool false, .slice none 0 0, .string ⟨#[]⟩, .int .i64 0, .int .i64 0, .string ⟨#[]⟩] 27)).heap.size = w.heap.size + 1 := by simp
    have e2 : ((w.alloc (.cells #[.int .i64 0, .string ⟨#[]⟩, .int .i64 0, .string ⟨#[]⟩, .string ⟨#[]⟩, .int .i64 0, .bool false, .slice none 0 0, .string ⟨#[]⟩, .int .i64 0, .int .i64 0, .string ⟨#[]⟩] 27)).alloc (.cells #[.int .i64 0, .int .i64 0, .int .i64 0] 34)).heap.size = w.heap.size + 1 + 1 := by simp
    refine ⟨((Blk.new _ _ _).alloc _).alloc _, ?_, ⟨?_, ⟨Nat.zero_le _, hs⟩, fun f hf => by cases hf⟩, (((Keep.refl _ w).alloc _).alloc _).alloc _⟩
    · have h := (Blk.new (w.alloc (.cells #[.int .i64 0, .string ⟨#[]⟩, .int .i64 0, .string ⟨#[]⟩, .string ⟨#[]⟩, .int .i64 0, .bool false, .slice none 0 0, .string ⟨#[]⟩, .int .i64 0, .int .i64 0, .string ⟨#[]⟩] 27)) 34 #[.int .i64 0, .int .i64 0, .int .i64 0]).alloc (.cells #[.string s, .int .i64 0, .int .i64 0, .int .i64 0] 88)
      rw [e1] at h
      exact h
    · have h := Blk.new ((w.alloc (.cells #[.int .i64 0, .string ⟨#[]⟩, .int .i64 0, .string ⟨#[]⟩, .string ⟨#[]⟩, .int .i64 0, .bool false, .slice none 0 0, .string ⟨#[]⟩, .int .i64 0, .int .i64 0, .string ⟨#[]⟩] 27)).alloc (.cells #[.int .i64 0, .int .i64 0, .int .i64 0] 34)) 88 #[.string s, .int .i64 0, .int .i64 0, .int .i64 0]
      rw [e2] at h
      simpa [fk, fa] using h
  go_enter Tryz.func16, Tryz.ntmps16
  go_wp2_with fail
  generalize ((w.alloc (.cells #[.int .i64 0, .string ⟨#[]⟩, .int .i64 0, .string ⟨#[]⟩, .string ⟨#[]⟩, .int .i64 0, .bool false, .slice none 0 0, .string ⟨#[]⟩, .int .i64 0, .int .i64 0, .string ⟨#[]⟩] 27)).alloc (.cells #[.int .i64 0, .int .i64 0, .int .i64 0] 34)).alloc (.cells #[.string s, .int .i64 0, .int .i64 0, .int .i64 0] 88) = w1 at *
  have hrb0 : w.heap.size ≤ w.heap.size := Nat.le_refl _
  have hrf0 : w.heap.size ≤ w.heap.size + 1 := by omega
  have hg0 : w.heap.size ≤ w.heap.size + 1 + 1 := by omega
  generalize w.heap.size + 1 + 1 = g at *
  generalize w.heap.size + 1 = rf at *
  refine (f_u8 g _ w1 HW.out.2.2.1).mono ?_; rintro e w2 ⟨rfl, h1, h2⟩
  have HR2 := Lib.hid h1
  have HB2 := Lib.hid (HW.out.1.rf h2 HW.out.2.2.1 (by decide))
  have HF2 := Lib.hid (HW.out.2.1.rf h2 HW.out.2.2.1 (by decide))
  have HP2 : Hid (Pure w w2) := HW.out.2.2.2.seq h2 fun i hi => .inr (by omega)
  clear h1 h2
  generalize ((⟨s, 0, none⟩ : RS).num 1).1 = k at *
  generalize ((⟨s, 0, none⟩ : RS).num 1).2 = s1 at *
  have HQ3 : Hid (RQ w g w.heap.size rf w2.heap.size s1 #[.int .i64 (k : Nat), .string ⟨#[]⟩, .int .i64 0, .string ⟨#[]⟩, .string ⟨#[]⟩, .int .i64 0, .bool false, .slice none 0 0, .string ⟨#[]⟩, .int .i64 0, .int .i64 0, .string ⟨#[]⟩] (w2.alloc (.cells #[.int .i64 (k : Nat), .string ⟨#[]⟩, .int .i64 0, .string ⟨#[]⟩, .string ⟨#[]⟩, .int .i64 0, .bool false, .slice none 0 0, .string ⟨#[]⟩, .int .i64 0, .int .i64 0, .string ⟨#[]⟩] 27))) := by
    have hk : Pure w2 (w2.alloc (.cells #[.int .i64 (k : Nat), .string ⟨#[]⟩, .int .i64 0, .string ⟨#[]⟩, .string ⟨#[]⟩, .int .i64 0, .bool false, .slice none 0 0, .string ⟨#[]⟩, .int .i64 0, .int .i64 0, .string ⟨#[]⟩] 27)) := (Keep.refl _ w2).alloc _
    have h1 := HP2.out.size
    have h2 := HB2.out.lt
    exact ⟨HR2.out.pure hk, hk.blk HB2.out (fun hf => hf), hk.blk HF2.out (fun hf => hf), Blk.new _ _ _, HP2.out.trans hk, hg0, hrb0, hrf0, h1, by omega⟩
  go_wp2_with fail
  generalize w2.alloc (.cells #[.int .i64 (k : Nat), .string ⟨#[]⟩, .int .i64 0, .string ⟨#[]⟩, .string ⟨#[]⟩, .int .i64 0, .bool false, .slice none 0 0, .string ⟨#[]⟩, .int .i64 0, .int .i64 0, .string ⟨#[]⟩] 27) = w3 at *
  generalize w2.heap.size = hm at *
  generalize hrb : w.heap.size = rb at *
  have HRB := Lib.hid hrb
  clear hrb hrb0
  clear HR2 HB2 HF2 HP2 HW
  refine (f_bin g s1 w3 HQ3.out.hR).mono ?_; rintro e w4 ⟨rfl, h1, h2⟩
  have HQ4 := Lib.hid (HQ3.out.call h1 h2)
  clear h1 h2
  generalize s1.bin.1 = group at *
  generalize s1.bin.2 = s2 at *
  have d0 := HQ4.out.hB3.cell 0
  have d1 := HQ4.out.hB3.cell 1
  have d2 := HQ4.out.hB3.cell 2
  have d3 := HQ4.out.hB3.cell 3
  have d4 := HQ4.out.hB3.cell 4
  have d5 := HQ4.out.hB3.cell 5
  have d6 := HQ4.out.hB3.cell 6
  have d7 := HQ4.out.hB3.cell 7
  have d8 := HQ4.out.hB3.cell 8
  have d9 := HQ4.out.hB3.cell 9
  have d10 := HQ4.out.hB3.cell 10
  have d11 := HQ4.out.hB3.cell 11
  have fd := HQ4.out.hB3.frozen
  have ld := HQ4.out.hB3.lt
  simp at d0 d1 d2 d3 d4 d5 d6 d7 d8 d9 d10 d11
  go_wp2_with fail
  have HQ5 : Hid (RQ w g rb rf hm s2 #[.int .i64 (k : Nat), .string group, .int .i64 0, .string ⟨#[]⟩, .string ⟨#[]⟩, .int .i64 0, .bool false, .slice none 0 0, .string ⟨#[]⟩, .int .i64 0, .int .i64 0, .string ⟨#[]⟩] (w4.setCell ⟨hm, 1, none⟩ (.string group))) := by
    have h := (HQ4.out.set 1 (.string group))
    show RQ _ _ _ _ _ _ _ _
    simpa using h
  generalize w4.setCell ⟨hm, 1, none⟩ (.string group) = w5 at *
  clear d0 d1 d2 d3 d4 d5 d6 d7 d8 d9 d10 d11 fd ld
  refine (f_u32 g s2 w5 HQ5.out.hR).mono ?_; rintro e w6 ⟨rfl, h1, h2⟩
  have HQ6 := Lib.hid (HQ5.out.call h1 h2)
  clear h1 h2
  generalize (s2.num 4).1 = seq at *
  generalize (s2.num 4).2 = s3 at *
  have d0 := HQ6.out.hB3.cell 0
  have d1 := HQ6.out.hB3.cell 1
  have d2 := HQ6.out.hB3.cell 2
  have d3 := HQ6.out.hB3.cell 3
  have d4 := HQ6.out.hB3.cell 4
  have d5 := HQ6.out.hB3.cell 5
  have d6 := HQ6.out.hB3.cell 6
  have d7 := HQ6.out.hB3.cell 7
  have d8 := HQ6.out.hB3.cell 8
  have d9 := HQ6.out.hB3.cell 9
  have d10 := HQ6.out.hB3.cell 10
  have d11 := HQ6.out.hB3.cell 11
  have fd := HQ6.out.hB3.frozen
  have ld := HQ6.out.hB3.lt
  simp at d0 d1 d2 d3 d4 d5 d6 d7 d8 d9 d10 d11
  have hk1 : ((k : Int) == 1) = false := by
    have h : ¬ k = 1 := HKK.out
    simp
    omega
  have HT : Hid (sTake s = sEnd s3 ⟨k, group, seq, zMsg⟩ 0) := by
    show _ = _
    rw [HT0.out]
    unfold sBody
    rw [if_neg (fun h => HKK.out (by omega))]
  go_wp2_with fail
  have HQ7 : Hid (RQ w g rb rf hm s3 #[.int .i64 (k : Nat), .string group, .int .i64 (seq : Nat), .string ⟨#[]⟩, .string ⟨#[]⟩, .int .i64 0, .bool false, .slice none 0 0, .string ⟨#[]⟩, .int .i64 0, .int .i64 0, .string ⟨#[]⟩] (w6.setCell ⟨hm, 2, none⟩ (.int .i64 (seq : Nat)))) := by
    have h := (HQ6.out.set 2 (.int .i64 (seq : Nat)))
    show RQ _ _ _ _ _ _ _ _
    simpa using h
  generalize w6.setCell ⟨hm, 2, none⟩ (.int .i64 (seq : Nat)) = w7 at *
  clear d0 d1 d2 d3 d4 d5 d6 d7 d8 d9 d10 d11 fd ld
  have HLT : Hid (rb < w7.heap.size ∧ rf < w7.heap.size) := ⟨HQ7.out.hB1.lt, HQ7.out.hB2.lt⟩
  refine (f_done g _ w7 HQ7.out.hR).mono ?_; rintro e wd ⟨rfl, hP⟩
  have HQd := Lib.hid (HQ7.out.pure hP)
  have HOd := Lib.hid (hP.own (own_nil _ w7.heap.size) fun _ _ hf => hf)
  clear hP
  have y0 := HQd.out.hB1.cell 0
  have y1 := HQd.out.hB1.cell 1
  have y2 := HQd.out.hB1.cell 2
  have y3 := HQd.out.hB1.cell 3
  have y4 := HQd.out.hB1.cell 4
  have y5 := HQd.out.hB1.cell 5
  have y6 := HQd.out.hB1.cell 6
  have y7 := HQd.out.hB1.cell 7
  have y8 := HQd.out.hB1.cell 8
  have y9 := HQd.out.hB1.cell 9
  have y10 := HQd.out.hB1.cell 10
  have y11 := HQd.out.hB1.cell 11
  have fy := HQd.out.hB1.frozen
  have ly := HQd.out.hB1.lt
  simp at y0 y1 y2 y3 y4 y5 y6 y7 y8 y9 y10 y11
  have z0 := HQd.out.hB2.cell 0
  have z1 := HQd.out.hB2.cell 1
  have z2 := HQd.out.hB2.cell 2
  have fz := HQd.out.hB2.frozen
  have lz := HQd.out.hB2.lt
  simp at z0 z1 z2
  have d0 := HQd.out.hB3.cell 0
  have d1 := HQd.out.hB3.cell 1
  have d2 := HQd.out.hB3.cell 2
  have d3 := HQd.out.hB3.cell 3
  have d4 := HQd.out.hB3.cell 4
  have d5 := HQd.out.hB3.cell 5
  have d6 := HQd.out.hB3.cell 6
  have d7 := HQd.out.hB3.cell 7
  have d8 := HQd.out.hB3.cell 8
  have d9 := HQd.out.hB3.cell 9
  have d10 := HQd.out.hB3.cell 10
  have d11 := HQd.out.hB3.cell 11
  have fd := HQd.out.hB3.frozen
  have ld := HQd.out.hB3.lt
  simp at d0 d1 d2 d3 d4 d5 d6 d7 d8 d9 d10 d11
  obtain ⟨hn1, hn2, hn3, hn4, hn5, hn6⟩ := HQd.out.nes
  cases hd : s3.done with
  | some f =>
    have HV : Hid (sTake s = .error f) := by show _ = _; rw [HT.out]; unfold sEnd; rw [hd]
    obtain ⟨hr, hk1, hk7⟩ := done_ok HQd.out.hR.2.2 hd
    have HFR := Lib.hid hr
    have hk0 : ((f.k : Int) != 0) = true := by simp; omega
    clear hd hr
    simp only [fk, fa]
    go_wp2_with fail
    refine bodyPost_ret (v := .tuple #[.agg #[.int .i64 0, .string ⟨#[]⟩, .int .i64 0, .string ⟨#[]⟩, .string ⟨#[]⟩, .int .i64 0, .bool false, .slice none 0 0, .string ⟨#[]⟩, .int .i64 0, .int .i64 0, .string ⟨#[]⟩], fltVal f.k 129 f.a]) (by simp [results, Tryz.results16, go_sem, fltVal, y0, y1, y2, y3, y4, y5, y6, y7, y8, y9, y10, y11, z0, z1, z2, ly, lz, fy, fz, hn1, hn2, hn3, hn4, hn5, hn6]) rfl ?_
    unfold QtPost
    rw [HV.out]
    refine rq_err HQd.out ?_ fun e1 => ⟨e1, by show _ = Ending.returned (.tuple #[_, fltVal f.k f.r f.a]); rw [HFR.out]; rfl⟩
    repeat (first | (with_reducible refine Keep.drew ?_) | (with_reducible refine Keep.drewN ?_ _) | (with_reducible refine Keep.alloc ?_ _) | (with_reducible refine Keep.setCell ?_ (by first | (simp; done) | (simp; omega)) _))
    exact Keep.refl _ _
  | none =>
    have HT2 : Hid (sTake s = if sMay ⟨k, group, seq, zMsg⟩ = true ∧ (0 : Int) ≤ 7 then .ok ⟨k, group, seq, zMsg⟩ else .error ⟨2, 129, 0⟩) := by show _ = _; rw [HT.out]; unfold sEnd; rw [hd]
    clear hd
    simp only [fk, fa]
    have hk00 : (((0 : Nat) : Int) != 0) = false := by decide
    have HMY : Hid (∀ (A' : Option Addr) (n' c : Nat) (w : World), Calls Tryz.prog 74 #[.agg #[.int .i64 (k : Nat), .string group, .int .i64 (seq : Nat), .string ⟨#[]⟩, .string ⟨#[]⟩, .int .i64 0, .bool false, .slice A' n' c, .string ⟨#[]⟩, .int .i64 0, .int .i64 0, .string ⟨#[]⟩]] w fun e w' => e = .returned (.bool (sMay ⟨k, group, seq, zMsg⟩)) ∧ Pure w w') := fun A' n' c w => q_may ⟨k, group, seq, zMsg⟩ A' n' c w
    go_wp2_with fail
    refine (HMY.out _ _ _ wd).mono ?_; rintro e wm ⟨rfl, hP⟩
    have HQm := Lib.hid (HQd.out.pure hP)
    have HOm := Lib.hid (hP.own HOd.out fun _ _ hf => hf)
    clear y0 y1 y2 y3 y4 y5 y6 y7 y8 y9 y10 y11 fy ly z0 z1 z2 fz lz d0 d1 d2 d3 d4 d5 d6 d7 d8 d9 d10 d11 fd ld
    clear hP
    have y0 := HQm.out.hB1.cell 0
    have y1 := HQm.out.hB1.cell 1
    have y2 := HQm.out.hB1.cell 2
    have y3 := HQm.out.hB1.cell 3
    have y4 := HQm.out.hB1.cell 4
    have y5 := HQm.out.hB1.cell 5
    have y6 := HQm.out.hB1.cell 6
    have y7 := HQm.out.hB1.cell 7
    have y8 := HQm.out.hB1.cell 8
    have y9 := HQm.out.hB1.cell 9
    have y10 := HQm.out.hB1.cell 10
    have y11 := HQm.out.hB1.cell 11
    have fy := HQm.out.hB1.frozen
    have ly := HQm.out.hB1.lt
    simp at y0 y1 y2 y3 y4 y5 y6 y7 y8 y9 y10 y11
    have z0 := HQm.out.hB2.cell 0
    have z1 := HQm.out.hB2.cell 1
    have z2 := HQm.out.hB2.cell 2
    have fz := HQm.out.hB2.frozen
    have lz := HQm.out.hB2.lt
    simp at z0 z1 z2
    have d0 := HQm.out.hB3.cell 0
    have d1 := HQm.out.hB3.cell 1
    have d2 := HQm.out.hB3.cell 2
    have d3 := HQm.out.hB3.cell 3
    have d4 := HQm.out.hB3.cell 4
    have d5 := HQm.out.hB3.cell 5
    have d6 := HQm.out.hB3.cell 6
    have d7 := HQm.out.hB3.cell 7
    have d8 := HQm.out.hB3.cell 8
    have d9 := HQm.out.hB3.cell 9
    have d10 := HQm.out.hB3.cell 10
    have d11 := HQm.out.hB3.cell 11
    have fd := HQm.out.hB3.frozen
    have ld := HQm.out.hB3.lt
    simp at d0 d1 d2 d3 d4 d5 d6 d7 d8 d9 d10 d11
    by_cases hmay : sMay ⟨k, group, seq, zMsg⟩ = true ∧ (0 : Int) ≤ 7
    · obtain ⟨hmy, hfl⟩ := hmay
      have HV : Hid (sTake s = .ok ⟨k, group, seq, zMsg⟩) := by show _ = _; rw [HT2.out, if_pos ⟨hmy, hfl⟩]
      rw [hmy]
      clear hmy
      go_wp2_with fail
      refine bodyPost_ret (v := .tuple #[.agg #[.int .i64 (k : Nat), .string group, .int .i64 (seq : Nat), .string ⟨#[]⟩, .string ⟨#[]⟩, .int .i64 0, .bool false, .slice none 0 0, .string ⟨#[]⟩, .int .i64 0, .int .i64 0, .string ⟨#[]⟩], fltVal 0 0 0]) (by simp [results, Tryz.results16, go_sem, fltVal, y0, y1, y2, y3, y4, y5, y6, y7, y8, y9, y10, y11, z0, z1, z2, ly, lz, fy, fz, hn1, hn2, hn3, hn4, hn5, hn6]) rfl ?_
      unfold QtPost
      rw [HV.out]
      refine rq_ok HQm.out HOm.out HLT.out.1 HLT.out.2 ?_ fun e1 e2 => ⟨e1, _, _, rfl, e2, by simp [zMsg]⟩
      repeat (first | (with_reducible refine Keep.drew ?_) | (with_reducible refine Keep.drewN ?_ _) | (with_reducible refine Keep.alloc ?_ _) | (with_reducible refine Keep.setCell ?_ (by first | (simp; done) | (simp; omega)) _))
      exact Keep.refl _ _
    · have HV : Hid (sTake s = .error ⟨2, 129, 0⟩) := by show _ = _; rw [HT2.out, if_neg hmay]
      by_cases hmy : sMay ⟨k, group, seq, zMsg⟩ = true
      · have hfl : ¬ (0 : Int) ≤ 7 := fun h => hmay ⟨hmy, h⟩
        exact absurd (by decide) hfl
      · rw [show sMay ⟨k, group, seq, zMsg⟩ = false by simpa using hmy]
        clear hmy hmay
        go_wp2_with fail
        refine bodyPost_ret (v := .tuple #[.agg #[.int .i64 0, .string ⟨#[]⟩, .int .i64 0, .string ⟨#[]⟩, .string ⟨#[]⟩, .int .i64 0, .bool false, .slice none 0 0, .string ⟨#[]⟩, .int .i64 0, .int .i64 0, .string ⟨#[]⟩], fltVal 2 129 0]) (by simp [results, Tryz.results16, go_sem, fltVal, y0, y1, y2, y3, y4, y5, y6, y7, y8, y9, y10, y11, z0, z1, z2, ly, lz, fy, fz, hn1, hn2, hn3, hn4, hn5, hn6]) rfl ?_
        unfold QtPost
        rw [HV.out]
        refine rq_err HQm.out ?_ fun e1 => ⟨e1, rfl⟩
        repeat (first | (with_reducible refine Keep.drew ?_) | (with_reducible refine Keep.drewN ?_ _) | (with_reducible refine Keep.alloc ?_ _) | (with_reducible refine Keep.setCell ?_ (by first | (simp; done) | (simp; omega)) _))
        exact Keep.refl _ _

set_option maxRecDepth 100000 in
set_option maxHeartbeats 4000000 in
theorem q_take_add (s : ByteArray) (w : World) (hs : s.size ≤ 140737488351232) (hk :  (((⟨s, 0, none⟩ : RS).num 1).1 = 1)) :
    Calls Tryz.prog 16 #[.string s] w (QtPost (sTake s) w) := by
  have HKK := Lib.hid hk
  clear hk
  have HT0 : Hid (sTake s = sBody (((⟨s, 0, none⟩ : RS).num 1).2.bin.2.num 4).2 ((⟨s, 0, none⟩ : RS).num 1).1 ((⟨s, 0, none⟩ : RS).num 1).2.bin.1 (((⟨s, 0, none⟩ : RS).num 1).2.bin.2.num 4).1) := rfl
  have HW : Hid (Blk (((w.alloc (.cells #[.int .i64 0, .string ⟨#[]⟩, .int .i64 0, .string ⟨#[]⟩, .string ⟨#[]⟩, .int .i64 0, .bool false, .slice none 0 0, .string ⟨#[]⟩, .int .i64 0, .int .i64 0, .string ⟨#[]⟩] 27)).alloc (.cells #[.int .i64 0, .int .i64 0, .int .i64 0] 34)).alloc (.cells #[.string s, .int .i64 0, .int .i64 0, .int .i64 0] 88)) w.heap.size 27 #[.int .i64 0, .string ⟨#[]⟩, .int .i64 0, .string ⟨#[]⟩, .string ⟨#[]⟩, .int .i64 0, .bool false, .slice none 0 0, .string ⟨#[]⟩, .int .i64 0, .int .i64 0, .string ⟨#[]⟩] ∧
      Blk (((w.alloc (.cells #[.int .i64 0, .string ⟨#[]⟩, .int .i64 0, .string ⟨#[]⟩, .string ⟨#[]⟩, .int .i64 0, .bool false, .slice none 0 0, .string ⟨#[]⟩, .int .i64 0, .int .i64 0, .string ⟨#[]⟩] 27)).alloc (.cells #[.int .i64 0, .int .i64 0, .int .i64 0] 34)).alloc (.cells #[.string s, .int .i64 0, .int .i64 0, .int .i64 0] 88)) (w.heap.size + 1) 34 #[.int .i64 0, .int .i64 0, .int .i64 0] ∧
      Rf (((w.alloc (.cells #[.int .i64 0, .string ⟨#[]⟩, .int .i64 0, .string ⟨#[]⟩, .string ⟨#[]⟩, .int .i64 0, .bool false, .slice none 0 0, .string ⟨#[]⟩, .int .i64 0, .int .i64 0, .string ⟨#[]⟩] 27)).alloc (.cells #[.int .i64 0, .int .i64 0, .int .i64 0] 34)).alloc (.cells #[.string s, .int .i64 0, .int .i64 0, .int .i64 0] 88)) (w.heap.size + 1 + 1) ⟨s, 0, none⟩ ∧
      Pure w (((w.alloc (.cells #[.int .i64 0, .string ⟨#[]⟩, .int .i64 0, .string ⟨#[]⟩, .string ⟨#[]⟩, .int .i64 0, .bool false, .slice none 0 0, .string ⟨#[]⟩, .int .i64 0, .int .i64 0, .string ⟨#[]⟩] 27)).alloc (.cells #[.int .i64 0, .int .i64 0, .int .i64 0] 34)).alloc (.cells #[.string s, .int .i64 0, .int .i64 0, .int .i64 0] 88))) := by
    have e1 : (w.alloc (.cells #[.int .i64 0, .string ⟨#[]⟩, .int .i64 0, .string ⟨#[]⟩, .string ⟨#[]⟩, .int .i64 0, .bool false, .slice none 0 0, .string ⟨#[]⟩, .int .i64 0, .int .i64 0, .string ⟨#[]⟩] 27)).heap.size = w.heap.size + 1 := by simp
    have e2 : ((w.alloc (.cells #[.int .i64 0, .string ⟨#[]⟩, .int .i64 0, .string ⟨#[]⟩, .string ⟨#[]⟩, .int .i64 0, .bool false, .slice none 0 0, .string ⟨#[]⟩, .int .i64 0, .int .i64 0, .string ⟨#[]⟩] 27)).alloc (.cells #[.int .i64 0, .int .i64 0, .int .i64 0] 34)).heap.size = w.heap.size + 1 + 1 := by simp
    refine ⟨((Blk.new _ _ _).alloc _).alloc _, ?_, ⟨?_, ⟨Nat.zero_le _, hs⟩, fun f hf => by cases hf⟩, (((Keep.refl _ w).alloc _).alloc _).alloc _⟩
    · have h := (Blk.new (w.alloc (.cells #[.int .i64 0, .string ⟨#[]⟩, .int .i64 0, .string ⟨#[]⟩, .string ⟨#[]⟩, .int .i64 0, .bool false, .slice none 0 0, .string ⟨#[]⟩, .int .i64 0, .int .i64 0, .string ⟨#[]⟩] 27)) 34 #[.int .i64 0, .int .i64 0, .int .i64 0]).alloc (.cells #[.string s, .int .i64 0, .int .i64 0, .int .i64 0] 88)
      rw [e1] at h
      exact h
    · have h := Blk.new ((w.alloc (.cells #[.int .i64 0, .string ⟨#[]⟩, .int .i64 0, .string ⟨#[]⟩, .string ⟨#[]⟩, .int .i64 0, .bool false, .slice none 0 0, .string ⟨#[]⟩, .int .i64 0, .int .i64 0, .string ⟨#[]⟩] 27)).alloc (.cells #[.int .i64 0, .int .i64 0, .int .i64 0] 34)) 88 #[.string s, .int .i64 0, .int .i64 0, .int .i64 0]
      rw [e2] at h
      simpa [fk, fa] using h
  go_enter Tryz.func16, Tryz.ntmps16
  go_wp2_with fail
  generalize ((w.alloc (.cells #[.int .i64 0, .string ⟨#[]⟩, .int .i64 0, .string ⟨#[]⟩, .string ⟨#[]⟩, .int .i64 0, .bool false, .slice none 0 0, .string ⟨#[]⟩, .int .i64 0, .int .i64 0, .string ⟨#[]⟩] 27)).alloc (.cells #[.int .i64 0, .int .i64 0, .int .i64 0] 34)).alloc (.cells #[.string s, .int .i64 0, .int .i64 0, .int .i64 0] 88) = w1 at *
  have hrb0 : w.heap.size ≤ w.heap.size := Nat.le_refl _
  have hrf0 : w.heap.size ≤ w.heap.size + 1 := by omega
  have hg0 : w.heap.size ≤ w.heap.size + 1 + 1 := by omega
  generalize w.heap.size + 1 + 1 = g at *
  generalize w.heap.size + 1 = rf at *
  refine (f_u8 g _ w1 HW.out.2.2.1).mono ?_; rintro e w2 ⟨rfl, h1, h2⟩
  have HR2 := Lib.hid h1
  have HB2 := Lib.hid (HW.out.1.rf h2 HW.out.2.2.1 (by decide))
  have HF2 := Lib.hid (HW.out.2.1.rf h2 HW.out.2.2.1 (by decide))
  have HP2 : Hid (Pure w w2) := HW.out.2.2.2.seq h2 fun i hi => .inr (by omega)
  clear h1 h2
  generalize ((⟨s, 0, none⟩ : RS).num 1).1 = k at *
  generalize ((⟨s, 0, none⟩ : RS).num 1).2 = s1 at *
  have HQ3 : Hid (RQ w g w.heap.size rf w2.heap.size s1 #[.int .i64 (k : Nat), .string ⟨#[]⟩, .int .i64 0, .string ⟨#[]⟩, .string ⟨#[]⟩, .int .i64 0, .bool false, .slice none 0 0, .string ⟨#[]⟩, .int .i64 0, .int .i64 0, .string ⟨#[]⟩] (w2.alloc (.cells #[.int .i64 (k : Nat), .string ⟨#[]⟩, .int .i64 0, .string ⟨#[]⟩, .string ⟨#[]⟩, .int .i64 0, .bool false, .slice none 0 0, .string ⟨#[]⟩, .int .i64 0, .int .i64 0, .string ⟨#[]⟩] 27))) := by
    have hk : Pure w2 (w2.alloc (.cells #[.int .i64 (k : Nat), .string ⟨#[]⟩, .int .i64 0, .string ⟨#[]⟩, .string ⟨#[]⟩, .int .i64 0, .bool false, .slice none 0 0, .string ⟨#[]⟩, .int .i64 0, .int .i64 0, .string ⟨#[]⟩] 27)) := (Keep.refl _ w2).alloc _
    have h1 := HP2.out.size
    have h2 := HB2.out.lt
    exact ⟨HR2.out.pure hk, hk.blk HB2.out (fun hf => hf), hk.blk HF2.out (fun hf => hf), Blk.new _ _ _, HP2.out.trans hk, hg0, hrb0, hrf0, h1, by omega⟩
  go_wp2_with fail
  generalize w2.alloc (.cells #[.int .i64 (k : Nat), .string ⟨#[]⟩, .int .i64 0, .string ⟨#[]⟩, .string ⟨#[]⟩, .int .i64 0, .bool false, .slice none 0 0, .string ⟨#[]⟩, .int .i64 0, .int .i64 0, .string ⟨#[]⟩] 27) = w3 at *
  generalize w2.heap.size = hm at *
  generalize hrb : w.heap.size = rb at *
  have HRB := Lib.hid hrb
  clear hrb hrb0
  clear HR2 HB2 HF2 HP2 HW
  refine (f_bin g s1 w3 HQ3.out.hR).mono ?_; rintro e w4 ⟨rfl, h1, h2⟩
  have HQ4 := Lib.hid (HQ3.out.call h1 h2)
  clear h1 h2
  generalize s1.bin.1 = group at *
  generalize s1.bin.2 = s2 at *
  have d0 := HQ4.out.hB3.cell 0
  have d1 := HQ4.out.hB3.cell 1
  have d2 := HQ4.out.hB3.cell 2
  have d3 := HQ4.out.hB3.cell 3
  have d4 := HQ4.out.hB3.cell 4
  have d5 := HQ4.out.hB3.cell 5
  have d6 := HQ4.out.hB3.cell 6
  have d7 := HQ4.out.hB3.cell 7
  have d8 := HQ4.out.hB3.cell 8
  have d9 := HQ4.out.hB3.cell 9
  have d10 := HQ4.out.hB3.cell 10
  have d11 := HQ4.out.hB3.cell 11
  have fd := HQ4.out.hB3.frozen
  have ld := HQ4.out.hB3.lt
  simp at d0 d1 d2 d3 d4 d5 d6 d7 d8 d9 d10 d11
  go_wp2_with fail
  have HQ5 : Hid (RQ w g rb rf hm s2 #[.int .i64 (k : Nat), .string group, .int .i64 0, .string ⟨#[]⟩, .string ⟨#[]⟩, .int .i64 0, .bool false, .slice none 0 0, .string ⟨#[]⟩, .int .i64 0, .int .i64 0, .string ⟨#[]⟩] (w4.setCell ⟨hm, 1, none⟩ (.string group))) := by
    have h := (HQ4.out.set 1 (.string group))
    show RQ _ _ _ _ _ _ _ _
    simpa using h
  generalize w4.setCell ⟨hm, 1, none⟩ (.string group) = w5 at *
  clear d0 d1 d2 d3 d4 d5 d6 d7 d8 d9 d10 d11 fd ld
  refine (f_u32 g s2 w5 HQ5.out.hR).mono ?_; rintro e w6 ⟨rfl, h1, h2⟩
  have HQ6 := Lib.hid (HQ5.out.call h1 h2)
  clear h1 h2
  generalize (s2.num 4).1 = seq at *
  generalize (s2.num 4).2 = s3 at *
  obtain rfl : k = 1 := HKK.out
  have HT1 : Hid (sTake s = match (pRead (sRd s3).st 3).1 with
    | .error f => .error f
    | .ok l => sEnd (pRead (sRd s3).st 3).2 ⟨(1 : Nat), group, seq, sMsg (sRd s3) l group seq⟩ (sRd s3).n) := by
    show _ = _
    rw [HT0.out]
    unfold sBody
    rw [if_pos (show ((1 : Nat) : Int) = 1 from rfl)]
    rfl
  have hk1 : (((1 : Nat) : Int) == 1) = true := by decide
  have d0 := HQ6.out.hB3.cell 0
  have d1 := HQ6.out.hB3.cell 1
  have d2 := HQ6.out.hB3.cell 2
  have d3 := HQ6.out.hB3.cell 3
  have d4 := HQ6.out.hB3.cell 4
  have d5 := HQ6.out.hB3.cell 5
  have d6 := HQ6.out.hB3.cell 6
  have d7 := HQ6.out.hB3.cell 7
  have d8 := HQ6.out.hB3.cell 8
  have d9 := HQ6.out.hB3.cell 9
  have d10 := HQ6.out.hB3.cell 10
  have d11 := HQ6.out.hB3.cell 11
  have fd := HQ6.out.hB3.frozen
  have ld := HQ6.out.hB3.lt
  simp at d0 d1 d2 d3 d4 d5 d6 d7 d8 d9 d10 d11
  go_wp2_with fail
  have HQ7 : Hid (RQ w g rb rf hm s3 #[.int .i64 1, .string group, .int .i64 (seq : Nat), .string ⟨#[]⟩, .string ⟨#[]⟩, .int .i64 0, .bool false, .slice none 0 0, .string ⟨#[]⟩, .int .i64 0, .int .i64 (seq : Nat), .string group] ((((((((((w6.setCell ⟨hm, 2, none⟩ (.int .i64 (seq : Nat))).setCell ⟨hm, 3, none⟩ (.string ⟨#[]⟩)).setCell ⟨hm, 4, none⟩ (.string ⟨#[]⟩)).setCell ⟨hm, 5, none⟩ (.int .i64 0)).setCell ⟨hm, 6, none⟩ (.bool false)).setCell ⟨hm, 7, none⟩ (.slice none 0 0)).setCell ⟨hm, 8, none⟩ (.string ⟨#[]⟩)).setCell ⟨hm, 9, none⟩ (.int .i64 0)).setCell ⟨hm, 10, none⟩ (.int .i64 (seq : Nat))).setCell ⟨hm, 11, none⟩ (.string group))) := by
    have h := ((((((((((HQ6.out.set 2 (.int .i64 (seq : Nat))).set 3 (.string ⟨#[]⟩)).set 4 (.string ⟨#[]⟩)).set 5 (.int .i64 0)).set 6 (.bool false)).set 7 (.slice none 0 0)).set 8 (.string ⟨#[]⟩)).set 9 (.int .i64 0)).set 10 (.int .i64 (seq : Nat))).set 11 (.string group))
    show RQ _ _ _ _ _ _ _ _
    simpa using h
  generalize (((((((((w6.setCell ⟨hm, 2, none⟩ (.int .i64 (seq : Nat))).setCell ⟨hm, 3, none⟩ (.string ⟨#[]⟩)).setCell ⟨hm, 4, none⟩ (.string ⟨#[]⟩)).setCell ⟨hm, 5, none⟩ (.int .i64 0)).setCell ⟨hm, 6, none⟩ (.bool false)).setCell ⟨hm, 7, none⟩ (.slice none 0 0)).setCell ⟨hm, 8, none⟩ (.string ⟨#[]⟩)).setCell ⟨hm, 9, none⟩ (.int .i64 0)).setCell ⟨hm, 10, none⟩ (.int .i64 (seq : Nat))).setCell ⟨hm, 11, none⟩ (.string group) = w7 at *
  clear d0 d1 d2 d3 d4 d5 d6 d7 d8 d9 d10 d11 fd ld
  have HST : Hid (sRd s3 = ⟨s3.bin.1, s3.bin.2.bin.1, (s3.bin.2.bin.2.num 1).1, (s3.bin.2.bin.2.num 1).2.bin.1, ((s3.bin.2.bin.2.num 1).2.bin.2.num 4).1, (((s3.bin.2.bin.2.num 1).2.bin.2.num 4).2.num 4).1, (((s3.bin.2.bin.2.num 1).2.bin.2.num 4).2.num 4).2⟩) := rfl
  refine (f_bin g s3 w7 HQ7.out.hR).mono ?_; rintro e w8 ⟨rfl, h1, h2⟩
  have HQ8 := Lib.hid (HQ7.out.call h1 h2)
  clear h1 h2
  generalize s3.bin.1 = topic at *
  generalize s3.bin.2 = s4 at *
  have d0 := HQ8.out.hB3.cell 0
  have d1 := HQ8.out.hB3.cell 1
  have d2 := HQ8.out.hB3.cell 2
  have d3 := HQ8.out.hB3.cell 3
  have d4 := HQ8.out.hB3.cell 4
  have d5 := HQ8.out.hB3.cell 5
  have d6 := HQ8.out.hB3.cell 6
  have d7 := HQ8.out.hB3.cell 7
  have d8 := HQ8.out.hB3.cell 8
  have d9 := HQ8.out.hB3.cell 9
  have d10 := HQ8.out.hB3.cell 10
  have d11 := HQ8.out.hB3.cell 11
  have fd := HQ8.out.hB3.frozen
  have ld := HQ8.out.hB3.lt
  simp at d0 d1 d2 d3 d4 d5 d6 d7 d8 d9 d10 d11
  go_wp2_with fail
  have HQ9 : Hid (RQ w g rb rf hm s4 #[.int .i64 1, .string group, .int .i64 (seq : Nat), .string topic, .string ⟨#[]⟩, .int .i64 0, .bool false, .slice none 0 0, .string ⟨#[]⟩, .int .i64 0, .int .i64 (seq : Nat), .string group] (w8.setCell ⟨hm, 3, none⟩ (.string topic))) := by
    have h := (HQ8.out.set 3 (.string topic))
    show RQ _ _ _ _ _ _ _ _
    simpa using h
  generalize w8.setCell ⟨hm, 3, none⟩ (.string topic) = w9 at *
  clear d0 d1 d2 d3 d4 d5 d6 d7 d8 d9 d10 d11 fd ld
  refine (f_bin g s4 w9 HQ9.out.hR).mono ?_; rintro e w10 ⟨rfl, h1, h2⟩
  have HQ10 := Lib.hid (HQ9.out.call h1 h2)
  clear h1 h2
  generalize s4.bin.1 = payload at *
  generalize s4.bin.2 = s5 at *
  have d0 := HQ10.out.hB3.cell 0
  have d1 := HQ10.out.hB3.cell 1
  have d2 := HQ10.out.hB3.cell 2
  have d3 := HQ10.out.hB3.cell 3
  have d4 := HQ10.out.hB3.cell 4
  have d5 := HQ10.out.hB3.cell 5
  have d6 := HQ10.out.hB3.cell 6
  have d7 := HQ10.out.hB3.cell 7
  have d8 := HQ10.out.hB3.cell 8
  have d9 := HQ10.out.hB3.cell 9
  have d10 := HQ10.out.hB3.cell 10
  have d11 := HQ10.out.hB3.cell 11
  have fd := HQ10.out.hB3.frozen
  have ld := HQ10.out.hB3.lt
  simp at d0 d1 d2 d3 d4 d5 d6 d7 d8 d9 d10 d11
  go_wp2_with fail
  have HQ11 : Hid (RQ w g rb rf hm s5 #[.int .i64 1, .string group, .int .i64 (seq : Nat), .string topic, .string payload, .int .i64 0, .bool false, .slice none 0 0, .string ⟨#[]⟩, .int .i64 0, .int .i64 (seq : Nat), .string group] (w10.setCell ⟨hm, 4, none⟩ (.string payload))) := by
    have h := (HQ10.out.set 4 (.string payload))
    show RQ _ _ _ _ _ _ _ _
    simpa using h
  generalize w10.setCell ⟨hm, 4, none⟩ (.string payload) = w11 at *
  clear d0 d1 d2 d3 d4 d5 d6 d7 d8 d9 d10 d11 fd ld
  refine (f_u8 g s5 w11 HQ11.out.hR).mono ?_; rintro e w12 ⟨rfl, h1, h2⟩
  have HQ12 := Lib.hid (HQ11.out.call h1 h2)
  clear h1 h2
  have hn256 : (s5.num 1).1 < 256 := num_lt s5 1
  generalize (s5.num 1).1 = n at *
  generalize (s5.num 1).2 = s6 at *
  have d0 := HQ12.out.hB3.cell 0
  have d1 := HQ12.out.hB3.cell 1
  have d2 := HQ12.out.hB3.cell 2
  have d3 := HQ12.out.hB3.cell 3
  have d4 := HQ12.out.hB3.cell 4
  have d5 := HQ12.out.hB3.cell 5
  have d6 := HQ12.out.hB3.cell 6
  have d7 := HQ12.out.hB3.cell 7
  have d8 := HQ12.out.hB3.cell 8
  have d9 := HQ12.out.hB3.cell 9
  have d10 := HQ12.out.hB3.cell 10
  have d11 := HQ12.out.hB3.cell 11
  have fd := HQ12.out.hB3.frozen
  have ld := HQ12.out.hB3.lt
  simp at d0 d1 d2 d3 d4 d5 d6 d7 d8 d9 d10 d11
  go_wp2_with fail
  rw [div_four n]
  have HQ13 : Hid (RQ w g rb rf hm s6 #[.int .i64 1, .string group, .int .i64 (seq : Nat), .string topic, .string payload, .int .i64 ((n : Int) % 4), .bool (decide (n / 4 % 2 = 1)), .slice none 0 0, .string ⟨#[]⟩, .int .i64 0, .int .i64 (seq : Nat), .string group] ((w12.setCell ⟨hm, 5, none⟩ (.int .i64 ((n : Int) % 4))).setCell ⟨hm, 6, none⟩ (.bool (decide (n / 4 % 2 = 1))))) := by
    have h := ((HQ12.out.set 5 (.int .i64 ((n : Int) % 4))).set 6 (.bool (decide (n / 4 % 2 = 1))))
    show RQ _ _ _ _ _ _ _ _
    simpa using h
  generalize (w12.setCell ⟨hm, 5, none⟩ (.int .i64 ((n : Int) % 4))).setCell ⟨hm, 6, none⟩ (.bool (decide (n / 4 % 2 = 1))) = w13 at *
  clear d0 d1 d2 d3 d4 d5 d6 d7 d8 d9 d10 d11 fd ld
  refine (f_bin g s6 w13 HQ13.out.hR).mono ?_; rintro e w14 ⟨rfl, h1, h2⟩
  have HQ14 := Lib.hid (HQ13.out.call h1 h2)
  clear h1 h2
  generalize s6.bin.1 = fr at *
  generalize s6.bin.2 = s7 at *
  have d0 := HQ14.out.hB3.cell 0
  have d1 := HQ14.out.hB3.cell 1
  have d2 := HQ14.out.hB3.cell 2
  have d3 := HQ14.out.hB3.cell 3
  have d4 := HQ14.out.hB3.cell 4
  have d5 := HQ14.out.hB3.cell 5
  have d6 := HQ14.out.hB3.cell 6
  have d7 := HQ14.out.hB3.cell 7
  have d8 := HQ14.out.hB3.cell 8
  have d9 := HQ14.out.hB3.cell 9
  have d10 := HQ14.out.hB3.cell 10
  have d11 := HQ14.out.hB3.cell 11
  have fd := HQ14.out.hB3.frozen
  have ld := HQ14.out.hB3.lt
  simp at d0 d1 d2 d3 d4 d5 d6 d7 d8 d9 d10 d11
  go_wp2_with fail
  have HQ15 : Hid (RQ w g rb rf hm s7 #[.int .i64 1, .string group, .int .i64 (seq : Nat), .string topic, .string payload, .int .i64 ((n : Int) % 4), .bool (decide (n / 4 % 2 = 1)), .slice none 0 0, .string fr, .int .i64 0, .int .i64 (seq : Nat), .string group] (w14.setCell ⟨hm, 8, none⟩ (.string fr))) := by
    have h := (HQ14.out.set 8 (.string fr))
    show RQ _ _ _ _ _ _ _ _
    simpa using h
  generalize w14.setCell ⟨hm, 8, none⟩ (.string fr) = w15 at *
  clear d0 d1 d2 d3 d4 d5 d6 d7 d8 d9 d10 d11 fd ld
  refine (f_u32 g s7 w15 HQ15.out.hR).mono ?_; rintro e w16 ⟨rfl, h1, h2⟩
  have HQ16 := Lib.hid (HQ15.out.call h1 h2)
  clear h1 h2
  have hhi : (s7.num 4).1 < 4294967296 := num_lt s7 4
  generalize (s7.num 4).1 = hi at *
  generalize (s7.num 4).2 = s8 at *
  go_wp2_with fail
  refine (f_u32 g s8 w16 HQ16.out.hR).mono ?_; rintro e w17 ⟨rfl, h1, h2⟩
  have HQ17 := Lib.hid (HQ16.out.call h1 h2)
  clear h1 h2
  have hlo : (s8.num 4).1 < 4294967296 := num_lt s8 4
  generalize (s8.num 4).1 = lo at *
  generalize (s8.num 4).2 = s9 at *
  have d0 := HQ17.out.hB3.cell 0
  have d1 := HQ17.out.hB3.cell 1
  have d2 := HQ17.out.hB3.cell 2
  have d3 := HQ17.out.hB3.cell 3
  have d4 := HQ17.out.hB3.cell 4
  have d5 := HQ17.out.hB3.cell 5
  have d6 := HQ17.out.hB3.cell 6
  have d7 := HQ17.out.hB3.cell 7
  have d8 := HQ17.out.hB3.cell 8
  have d9 := HQ17.out.hB3.cell 9
  have d10 := HQ17.out.hB3.cell 10
  have d11 := HQ17.out.hB3.cell 11
  have fd := HQ17.out.hB3.frozen
  have ld := HQ17.out.hB3.lt
  simp at d0 d1 d2 d3 d4 d5 d6 d7 d8 d9 d10 d11
  go_wp2_with fail
  rw [until_add hi lo]
  have HQ18 : Hid (RQ w g rb rf hm s9 #[.int .i64 1, .string group, .int .i64 (seq : Nat), .string topic, .string payload, .int .i64 ((n : Int) % 4), .bool (decide (n / 4 % 2 = 1)), .slice none 0 0, .string fr, .int .i64 (wrap64 ((hi : Int) * 4294967296 + lo)), .int .i64 (seq : Nat), .string group] (w17.setCell ⟨hm, 9, none⟩ (.int .i64 (wrap64 ((hi : Int) * 4294967296 + lo))))) := by
    have h := (HQ17.out.set 9 (.int .i64 (wrap64 ((hi : Int) * 4294967296 + lo))))
    show RQ _ _ _ _ _ _ _ _
    simpa using h
  generalize w17.setCell ⟨hm, 9, none⟩ (.int .i64 (wrap64 ((hi : Int) * 4294967296 + lo))) = w18 at *
  clear d0 d1 d2 d3 d4 d5 d6 d7 d8 d9 d10 d11 fd ld
  have HLT : Hid (rb < w18.heap.size ∧ rf < w18.heap.size ∧ hm < w18.heap.size) := ⟨HQ18.out.hB1.lt, HQ18.out.hB2.lt, HQ18.out.hB3.lt⟩
  refine (q_read g s9 3 w18 HQ18.out.hR).mono ?_; rintro e wr ⟨h1, h2, h4⟩
  have HQr := Lib.hid (HQ18.out.call h1 h2)
  clear h1 h2
  have HPX : Hid (∀ y, y = pRead s9 3 → pRead (sRd s3).st 3 = y) := fun y h => by rw [HST.out]; exact h.symm
  have HPR := Lib.hid (HPX.out _ rfl)
  clear HPX
  generalize pRead s9 3 = r at *
  obtain ⟨r, s10⟩ := r
  simp only at *
  have y0 := HQr.out.hB1.cell 0
  have y1 := HQr.out.hB1.cell 1
  have y2 := HQr.out.hB1.cell 2
  have y3 := HQr.out.hB1.cell 3
  have y4 := HQr.out.hB1.cell 4
  have y5 := HQr.out.hB1.cell 5
  have y6 := HQr.out.hB1.cell 6
  have y7 := HQr.out.hB1.cell 7
  have y8 := HQr.out.hB1.cell 8
  have y9 := HQr.out.hB1.cell 9
  have y10 := HQr.out.hB1.cell 10
  have y11 := HQr.out.hB1.cell 11
  have fy := HQr.out.hB1.frozen
  have ly := HQr.out.hB1.lt
  simp at y0 y1 y2 y3 y4 y5 y6 y7 y8 y9 y10 y11
  have z0 := HQr.out.hB2.cell 0
  have z1 := HQr.out.hB2.cell 1
  have z2 := HQr.out.hB2.cell 2
  have fz := HQr.out.hB2.frozen
  have lz := HQr.out.hB2.lt
  simp at z0 z1 z2
  have d0 := HQr.out.hB3.cell 0
  have d1 := HQr.out.hB3.cell 1
  have d2 := HQr.out.hB3.cell 2
  have d3 := HQr.out.hB3.cell 3
  have d4 := HQr.out.hB3.cell 4
  have d5 := HQr.out.hB3.cell 5
  have d6 := HQr.out.hB3.cell 6
  have d7 := HQr.out.hB3.cell 7
  have d8 := HQr.out.hB3.cell 8
  have d9 := HQr.out.hB3.cell 9
  have d10 := HQr.out.hB3.cell 10
  have d11 := HQr.out.hB3.cell 11
  have fd := HQr.out.hB3.frozen
  have ld := HQr.out.hB3.lt
  simp at d0 d1 d2 d3 d4 d5 d6 d7 d8 d9 d10 d11
  obtain ⟨hn1, hn2, hn3, hn4, hn5, hn6⟩ := HQr.out.nes
  cases r with
  | error f =>
    simp only at h4
    obtain ⟨rfl, hk1', hk7⟩ := h4
    have HV : Hid (sTake s = .error f) := by show _ = _; rw [HT1.out, HPR.out]
    have hk0 : ((f.k : Int) != 0) = true := by simp; omega
    simp only [fltVal]
    go_wp2_with fail
    have HB9 : Hid (Blk (wr.alloc (.cells #[.int .i64 f.k, .int .i64 f.r, .int .i64 f.a] 34)) wr.heap.size 34 #[.int .i64 f.k, .int .i64 f.r, .int .i64 f.a]) := Blk.new _ _ _
    have HQe := Lib.hid (HQr.out.pure ((Keep.refl _ wr).alloc (.cells #[.int .i64 f.k, .int .i64 f.r, .int .i64 f.a] 34)))
    have hne9 : rb ≠ wr.heap.size := by have h := HQr.out.hB1.lt; omega
    have hne9' : wr.heap.size ≠ rb := fun e => hne9 e.symm
    clear y0 y1 y2 y3 y4 y5 y6 y7 y8 y9 y10 y11 fy ly z0 z1 z2 fz lz d0 d1 d2 d3 d4 d5 d6 d7 d8 d9 d10 d11 fd ld
    generalize wr.alloc (.cells #[.int .i64 f.k, .int .i64 f.r, .int .i64 f.a] 34) = we at *
    generalize wr.heap.size = h9 at *
    have y0 := HQe.out.hB1.cell 0
    have y1 := HQe.out.hB1.cell 1
    have y2 := HQe.out.hB1.cell 2
    have y3 := HQe.out.hB1.cell 3
    have y4 := HQe.out.hB1.cell 4
    have y5 := HQe.out.hB1.cell 5
    have y6 := HQe.out.hB1.cell 6
    have y7 := HQe.out.hB1.cell 7
    have y8 := HQe.out.hB1.cell 8
    have y9 := HQe.out.hB1.cell 9
    have y10 := HQe.out.hB1.cell 10
    have y11 := HQe.out.hB1.cell 11
    have fy := HQe.out.hB1.frozen
    have ly := HQe.out.hB1.lt
    simp at y0 y1 y2 y3 y4 y5 y6 y7 y8 y9 y10 y11
    have z0 := HQe.out.hB2.cell 0
    have z1 := HQe.out.hB2.cell 1
    have z2 := HQe.out.hB2.cell 2
    have fz := HQe.out.hB2.frozen
    have lz := HQe.out.hB2.lt
    simp at z0 z1 z2
    have d0 := HQe.out.hB3.cell 0
    have d1 := HQe.out.hB3.cell 1
    have d2 := HQe.out.hB3.cell 2
    have d3 := HQe.out.hB3.cell 3
    have d4 := HQe.out.hB3.cell 4
    have d5 := HQe.out.hB3.cell 5
    have d6 := HQe.out.hB3.cell 6
    have d7 := HQe.out.hB3.cell 7
    have d8 := HQe.out.hB3.cell 8
    have d9 := HQe.out.hB3.cell 9
    have d10 := HQe.out.hB3.cell 10
    have d11 := HQe.out.hB3.cell 11
    have fd := HQe.out.hB3.frozen
    have ld := HQe.out.hB3.lt
    simp at d0 d1 d2 d3 d4 d5 d6 d7 d8 d9 d10 d11
    have x0 := HB9.out.cell 0
    have x1 := HB9.out.cell 1
    have x2 := HB9.out.cell 2
    have fx := HB9.out.frozen
    have lx := HB9.out.lt
    simp at x0 x1 x2
    go_region
    all_goals
      go_wp2_with fail
      refine bodyPost_ret (v := .tuple #[.agg #[.int .i64 0, .string ⟨#[]⟩, .int .i64 0, .string ⟨#[]⟩, .string ⟨#[]⟩, .int .i64 0, .bool false, .slice none 0 0, .string ⟨#[]⟩, .int .i64 0, .int .i64 0, .string ⟨#[]⟩], fltVal f.k f.r f.a]) (by simp [results, Tryz.results16, go_sem, fltVal, y0, y1, y2, y3, y4, y5, y6, y7, y8, y9, y10, y11, z0, z1, z2, ly, lz, fy, fz, hn1, hn2, hn3, hn4, hn5, hn6]) rfl ?_
      unfold QtPost
      rw [HV.out]
      refine rq_err HQe.out ?_ fun e1 => ⟨e1, rfl⟩
      repeat (first | (with_reducible refine Keep.drew ?_) | (with_reducible refine Keep.drewN ?_ _) | (with_reducible refine Keep.alloc ?_ _) | (with_reducible refine Keep.setCell ?_ (by first | (simp; done) | (simp; omega)) _))
      exact Keep.refl _ _
  | ok l =>
    simp only at h4
    obtain ⟨v, rfl, ho, hl⟩ := h4
    obtain ⟨A, c, rfl⟩ := own_shape ho
    have HO := Lib.hid ho
    have HT : Hid (sTake s = sEnd s10 ⟨(1 : Nat), group, seq, sMsg ⟨topic, payload, n, fr, hi, lo, s9⟩ l group seq⟩ n) := by
      show _ = _
      rw [HT1.out, HPR.out, HST.out]
    have hk00 : ((0 : Int) != 0) = false := by decide
    clear ho
    simp only [fltVal]
    go_wp2_with fail
    clear y0 y1 y2 y3 y4 y5 y6 y7 y8 y9 y10 y11 fy ly z0 z1 z2 fz lz d0 d1 d2 d3 d4 d5 d6 d7 d8 d9 d10 d11 fd ld
    have HKx : Hid (Keep (fun i => i = hm) wr ((wr.setCell ⟨hm, 7, none⟩ (.slice A l.length c)).alloc (.cells #[.int .i64 0, .int .i64 0, .int .i64 0] 34))) := by
      show Keep _ _ _
      repeat (first | (with_reducible refine Keep.drew ?_) | (with_reducible refine Keep.drewN ?_ _) | (with_reducible refine Keep.alloc ?_ _) | (with_reducible refine Keep.setCell ?_ (by first | (simp; done) | (simp; omega)) _))
      exact Keep.refl _ _
    have HOx := Lib.hid (HKx.out.own HO.out fun i hi hs => by
      have h1 := own_ge HO.out i hi
      have h2 := HLT.out.2.2
      omega)
    have HQx : Hid (RQ w g rb rf hm s10 #[.int .i64 1, .string group, .int .i64 (seq : Nat), .string topic, .string payload, .int .i64 ((n : Int) % 4), .bool (decide (n / 4 % 2 = 1)), .slice A l.length c, .string fr, .int .i64 (wrap64 ((hi : Int) * 4294967296 + lo)), .int .i64 (seq : Nat), .string group] ((wr.setCell ⟨hm, 7, none⟩ (.slice A l.length c)).alloc (.cells #[.int .i64 0, .int .i64 0, .int .i64 0] 34))) := by
      have h := (HQr.out.set 7 (.slice A l.length c)).pure ((Keep.refl _ _).alloc (.cells #[.int .i64 0, .int .i64 0, .int .i64 0] 34))
      show RQ _ _ _ _ _ _ _ _
      simpa using h
    generalize (wr.setCell ⟨hm, 7, none⟩ (.slice A l.length c)).alloc (.cells #[.int .i64 0, .int .i64 0, .int .i64 0] 34) = wx at *
    refine (f_done g _ wx HQx.out.hR).mono ?_; rintro e wd ⟨rfl, hP⟩
    have HQd := Lib.hid (HQx.out.pure hP)
    have HOd := Lib.hid (hP.own HOx.out fun _ _ hf => hf)
    clear hP
    have y0 := HQd.out.hB1.cell 0
    have y1 := HQd.out.hB1.cell 1
    have y2 := HQd.out.hB1.cell 2
    have y3 := HQd.out.hB1.cell 3
    have y4 := HQd.out.hB1.cell 4
    have y5 := HQd.out.hB1.cell 5
    have y6 := HQd.out.hB1.cell 6
    have y7 := HQd.out.hB1.cell 7
    have y8 := HQd.out.hB1.cell 8
    have y9 := HQd.out.hB1.cell 9
    have y10 := HQd.out.hB1.cell 10
    have y11 := HQd.out.hB1.cell 11
    have fy := HQd.out.hB1.frozen
    have ly := HQd.out.hB1.lt
    simp at y0 y1 y2 y3 y4 y5 y6 y7 y8 y9 y10 y11
    have z0 := HQd.out.hB2.cell 0
    have z1 := HQd.out.hB2.cell 1
    have z2 := HQd.out.hB2.cell 2
    have fz := HQd.out.hB2.frozen
    have lz := HQd.out.hB2.lt
    simp at z0 z1 z2
    have d0 := HQd.out.hB3.cell 0
    have d1 := HQd.out.hB3.cell 1
    have d2 := HQd.out.hB3.cell 2
    have d3 := HQd.out.hB3.cell 3
    have d4 := HQd.out.hB3.cell 4
    have d5 := HQd.out.hB3.cell 5
    have d6 := HQd.out.hB3.cell 6
    have d7 := HQd.out.hB3.cell 7
    have d8 := HQd.out.hB3.cell 8
    have d9 := HQd.out.hB3.cell 9
    have d10 := HQd.out.hB3.cell 10
    have d11 := HQd.out.hB3.cell 11
    have fd := HQd.out.hB3.frozen
    have ld := HQd.out.hB3.lt
    simp at d0 d1 d2 d3 d4 d5 d6 d7 d8 d9 d10 d11
    obtain ⟨hn1, hn2, hn3, hn4, hn5, hn6⟩ := HQd.out.nes
    cases hd : s10.done with
    | some f =>
      have HV : Hid (sTake s = .error f) := by show _ = _; rw [HT.out]; unfold sEnd; rw [hd]
      obtain ⟨hr, hk1, hk7⟩ := done_ok HQd.out.hR.2.2 hd
      have HFR := Lib.hid hr
      have hk0 : ((f.k : Int) != 0) = true := by simp; omega
      clear hd hr
      simp only [fk, fa]
      go_wp2_with fail
      refine bodyPost_ret (v := .tuple #[.agg #[.int .i64 0, .string ⟨#[]⟩, .int .i64 0, .string ⟨#[]⟩, .string ⟨#[]⟩, .int .i64 0, .bool false, .slice none 0 0, .string ⟨#[]⟩, .int .i64 0, .int .i64 0, .string ⟨#[]⟩], fltVal f.k 129 f.a]) (by simp [results, Tryz.results16, go_sem, fltVal, y0, y1, y2, y3, y4, y5, y6, y7, y8, y9, y10, y11, z0, z1, z2, ly, lz, fy, fz, hn1, hn2, hn3, hn4, hn5, hn6]) rfl ?_
      unfold QtPost
      rw [HV.out]
      refine rq_err HQd.out ?_ fun e1 => ⟨e1, by show _ = Ending.returned (.tuple #[_, fltVal f.k f.r f.a]); rw [HFR.out]; rfl⟩
      repeat (first | (with_reducible refine Keep.drew ?_) | (with_reducible refine Keep.drewN ?_ _) | (with_reducible refine Keep.alloc ?_ _) | (with_reducible refine Keep.setCell ?_ (by first | (simp; done) | (simp; omega)) _))
      exact Keep.refl _ _
    | none =>
      have HT2 : Hid (sTake s = if sMay ⟨(1 : Nat), group, seq, sMsg ⟨topic, payload, n, fr, hi, lo, s9⟩ l group seq⟩ = true ∧ (n : Int) ≤ 7 then .ok ⟨(1 : Nat), group, seq, sMsg ⟨topic, payload, n, fr, hi, lo, s9⟩ l group seq⟩ else .error ⟨2, 129, 0⟩) := by show _ = _; rw [HT.out]; unfold sEnd; rw [hd]
      clear hd
      simp only [fk, fa]
      have hk00 : (((0 : Nat) : Int) != 0) = false := by decide
      have HMY : Hid (∀ (A' : Option Addr) (n' c : Nat) (w : World), Calls Tryz.prog 74 #[.agg #[.int .i64 1, .string group, .int .i64 (seq : Nat), .string topic, .string payload, .int .i64 ((n : Int) % 4), .bool (decide (n / 4 % 2 = 1)), .slice A' n' c, .string fr, .int .i64 (wrap64 ((hi : Int) * 4294967296 + lo)), .int .i64 (seq : Nat), .string group]] w fun e w' => e = .returned (.bool (sMay ⟨(1 : Nat), group, seq, sMsg ⟨topic, payload, n, fr, hi, lo, s9⟩ l group seq⟩)) ∧ Pure w w') := fun A' n' c w => q_may ⟨(1 : Nat), group, seq, sMsg ⟨topic, payload, n, fr, hi, lo, s9⟩ l group seq⟩ A' n' c w
      go_wp2_with fail
      refine (HMY.out _ _ _ wd).mono ?_; rintro e wm ⟨rfl, hP⟩
      have HQm := Lib.hid (HQd.out.pure hP)
      have HOm := Lib.hid (hP.own HOd.out fun _ _ hf => hf)
      clear y0 y1 y2 y3 y4 y5 y6 y7 y8 y9 y10 y11 fy ly z0 z1 z2 fz lz d0 d1 d2 d3 d4 d5 d6 d7 d8 d9 d10 d11 fd ld
      clear hP
      have y0 := HQm.out.hB1.cell 0
      have y1 := HQm.out.hB1.cell 1
      have y2 := HQm.out.hB1.cell 2
      have y3 := HQm.out.hB1.cell 3
      have y4 := HQm.out.hB1.cell 4
      have y5 := HQm.out.hB1.cell 5
      have y6 := HQm.out.hB1.cell 6
      have y7 := HQm.out.hB1.cell 7
      have y8 := HQm.out.hB1.cell 8
      have y9 := HQm.out.hB1.cell 9
      have y10 := HQm.out.hB1.cell 10
      have y11 := HQm.out.hB1.cell 11
      have fy := HQm.out.hB1.frozen
      have ly := HQm.out.hB1.lt
      simp at y0 y1 y2 y3 y4 y5 y6 y7 y8 y9 y10 y11
      have z0 := HQm.out.hB2.cell 0
      have z1 := HQm.out.hB2.cell 1
      have z2 := HQm.out.hB2.cell 2
      have fz := HQm.out.hB2.frozen
      have lz := HQm.out.hB2.lt
      simp at z0 z1 z2
      have d0 := HQm.out.hB3.cell 0
      have d1 := HQm.out.hB3.cell 1
      have d2 := HQm.out.hB3.cell 2
      have d3 := HQm.out.hB3.cell 3
      have d4 := HQm.out.hB3.cell 4
      have d5 := HQm.out.hB3.cell 5
      have d6 := HQm.out.hB3.cell 6
      have d7 := HQm.out.hB3.cell 7
      have d8 := HQm.out.hB3.cell 8
      have d9 := HQm.out.hB3.cell 9
      have d10 := HQm.out.hB3.cell 10
      have d11 := HQm.out.hB3.cell 11
      have fd := HQm.out.hB3.frozen
      have ld := HQm.out.hB3.lt
      simp at d0 d1 d2 d3 d4 d5 d6 d7 d8 d9 d10 d11
      by_cases hmay : sMay ⟨(1 : Nat), group, seq, sMsg ⟨topic, payload, n, fr, hi, lo, s9⟩ l group seq⟩ = true ∧ (n : Int) ≤ 7
      · obtain ⟨hmy, hfl⟩ := hmay
        have HV : Hid (sTake s = .ok ⟨(1 : Nat), group, seq, sMsg ⟨topic, payload, n, fr, hi, lo, s9⟩ l group seq⟩) := by show _ = _; rw [HT2.out, if_pos ⟨hmy, hfl⟩]
        rw [hmy]
        clear hmy
        go_wp2_with fail
        refine bodyPost_ret (v := .tuple #[.agg #[.int .i64 1, .string group, .int .i64 (seq : Nat), .string topic, .string payload, .int .i64 ((n : Int) % 4), .bool (decide (n / 4 % 2 = 1)), .slice A l.length c, .string fr, .int .i64 (wrap64 ((hi : Int) * 4294967296 + lo)), .int .i64 (seq : Nat), .string group], fltVal 0 0 0]) (by simp [results, Tryz.results16, go_sem, fltVal, y0, y1, y2, y3, y4, y5, y6, y7, y8, y9, y10, y11, z0, z1, z2, ly, lz, fy, fz, hn1, hn2, hn3, hn4, hn5, hn6]) rfl ?_
        unfold QtPost
        rw [HV.out]
        refine rq_ok HQm.out HOm.out HLT.out.1 HLT.out.2.1 ?_ fun e1 e2 => ⟨e1, _, _, rfl, e2, hl⟩
        repeat (first | (with_reducible refine Keep.drew ?_) | (with_reducible refine Keep.drewN ?_ _) | (with_reducible refine Keep.alloc ?_ _) | (with_reducible refine Keep.setCell ?_ (by first | (simp; done) | (simp; omega)) _))
        exact Keep.refl _ _
      · have HV : Hid (sTake s = .error ⟨2, 129, 0⟩) := by show _ = _; rw [HT2.out, if_neg hmay]
        by_cases hmy : sMay ⟨(1 : Nat), group, seq, sMsg ⟨topic, payload, n, fr, hi, lo, s9⟩ l group seq⟩ = true
        · have hfl : ¬ (n : Int) ≤ 7 := fun h => hmay ⟨hmy, h⟩
          rw [hmy]
          clear hmy hmay
          go_wp2_with fail
          refine bodyPost_ret (v := .tuple #[.agg #[.int .i64 0, .string ⟨#[]⟩, .int .i64 0, .string ⟨#[]⟩, .string ⟨#[]⟩, .int .i64 0, .bool false, .slice none 0 0, .string ⟨#[]⟩, .int .i64 0, .int .i64 0, .string ⟨#[]⟩], fltVal 2 129 0]) (by simp [results, Tryz.results16, go_sem, fltVal, y0, y1, y2, y3, y4, y5, y6, y7, y8, y9, y10, y11, z0, z1, z2, ly, lz, fy, fz, hn1, hn2, hn3, hn4, hn5, hn6]) rfl ?_
          unfold QtPost
          rw [HV.out]
          refine rq_err HQm.out ?_ fun e1 => ⟨e1, rfl⟩
          repeat (first | (with_reducible refine Keep.drew ?_) | (with_reducible refine Keep.drewN ?_ _) | (with_reducible refine Keep.alloc ?_ _) | (with_reducible refine Keep.setCell ?_ (by first | (simp; done) | (simp; omega)) _))
          exact Keep.refl _ _
        · rw [show sMay ⟨(1 : Nat), group, seq, sMsg ⟨topic, payload, n, fr, hi, lo, s9⟩ l group seq⟩ = false by simpa using hmy]
          clear hmy hmay
          go_wp2_with fail
          refine bodyPost_ret (v := .tuple #[.agg #[.int .i64 0, .string ⟨#[]⟩, .int .i64 0, .string ⟨#[]⟩, .string ⟨#[]⟩, .int .i64 0, .bool false, .slice none 0 0, .string ⟨#[]⟩, .int .i64 0, .int .i64 0, .string ⟨#[]⟩], fltVal 2 129 0]) (by simp [results, Tryz.results16, go_sem, fltVal, y0, y1, y2, y3, y4, y5, y6, y7, y8, y9, y10, y11, z0, z1, z2, ly, lz, fy, fz, hn1, hn2, hn3, hn4, hn5, hn6]) rfl ?_
          unfold QtPost
          rw [HV.out]
          refine rq_err HQm.out ?_ fun e1 => ⟨e1, rfl⟩
          repeat (first | (with_reducible refine Keep.drew ?_) | (with_reducible refine Keep.drewN ?_ _) | (with_reducible refine Keep.alloc ?_ _) | (with_reducible refine Keep.setCell ?_ (by first | (simp; done) | (simp; omega)) _))
          exact Keep.refl _ _

theorem q34_take (s : ByteArray) (w : World) (hs : s.size ≤ 140737488351232) :
    Calls Tryz.prog 16 #[.string s] w (QtPost (sTake s) w) := by
  by_cases hk : ((⟨s, 0, none⟩ : RS).num 1).1 = 1
  · exact q_take_add s w hs hk
  · exact q_take_rest s w hs hk
end Go.Proofs.YthokkjdolcfhcaaGreatDoor

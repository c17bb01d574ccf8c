/- The writer of package field: numbers of so many bytes: what cannot be written. The writer of package field: numbers, raw bytes, bytes with their length ahead, all bytes. The writer of package field: variable numbers, texts, all bytes. -/
import Derived.Test.YthokkjdolcfhcaaGreatDoorMg

set_option linter.unusedVariables false
namespace Go.Proofs.YthokkjdolcfhcaaGreatDoor
open Go.RowKit

theorem w_number_off (b : Nat) (σ : Nat → Addr) (g : Nat) (ws : WS) (f : Flt) (hf : ws.e = some f) (n m : Int) (w : World) (hR : Wr b σ w g ws) :
    Calls Tryz.prog 152 #[.pointer (some ⟨g, 0, none⟩), .int .i64 n, .int .i64 m] w fun e w' => e = .returned (.tuple #[]) ∧ w = w' := by
  have HR := Lib.hid hR
  have h := w_off b σ g ws w hR
  rw [hf] at h
  simp only [Option.isSome] at h
  have HO := Lib.hid h
  clear hR h hf
  go_enter Tryz.func152, Tryz.ntmps152
  go_wp2_with fail
  refine HO.out.mono ?_; rintro e w' ⟨rfl, rfl⟩
  go_wp2_with fail
  refine bodyPost_ret (results_none rfl _ _ _) rfl ?_
  exact ⟨rfl, rfl⟩

theorem Wr.failed {b : Nat} {σ : Nat → Addr} {w : World} {g : Nat} {ws : WS} {v x : Value} (hb : Blk w g 101 #[v, x]) (ho : w.ownsRow g 5 1 v ws.all.size (Lib.strCells ws.all)) (hbg : b ≤ g) (k : Nat) (r a' : Int) (hk : 1 ≤ k) (hk7 : k ≤ 7) :
    Wr b σ ((w.setCell ⟨g, 1, none⟩ (.iface 148 (.pointer (some ⟨w.heap.size, 0, none⟩)))).alloc (.cells #[.int .i64 r, .int .i64 a', .iface 256 (.pointer (some (σ k)))] 150)) g (ws.fail ⟨k, r, a'⟩) ∧
      From g w ((w.setCell ⟨g, 1, none⟩ (.iface 148 (.pointer (some ⟨w.heap.size, 0, none⟩)))).alloc (.cells #[.int .i64 r, .int .i64 a', .iface 256 (.pointer (some (σ k)))] 150)) := by
  have hlt := hb.lt
  have K : Only g w ((w.setCell ⟨g, 1, none⟩ (.iface 148 (.pointer (some ⟨w.heap.size, 0, none⟩)))).alloc (.cells #[.int .i64 r, .int .i64 a', .iface 256 (.pointer (some (σ k)))] 150)) :=
    ((Keep.refl (fun k => k = g) w).setCell (.inl rfl) _).alloc _
  refine ⟨⟨v, _, by have h := (hb.set_ 1 (.iface 148 (.pointer (some ⟨w.heap.size, 0, none⟩)))).alloc (.cells #[.int .i64 r, .int .i64 a', .iface 256 (.pointer (some (σ k)))] 150); simpa using h, ?_, ⟨⟨hk, hk7⟩, _, rfl, .base _ _ _ _ ?_⟩, hbg⟩, From.of_only K⟩
  · exact K.own ho (hb.ne_own ho (by decide))
  · have h := Blk.new (w.setCell ⟨g, 1, none⟩ (.iface 148 (.pointer (some ⟨w.heap.size, 0, none⟩)))) 150 #[.int .i64 r, .int .i64 a', .iface 256 (.pointer (some (σ k)))]
    simpa [World.setCell] using h
theorem Wr.drew {b : Nat} {σ : Nat → Addr} {w : World} {g : Nat} {ws : WS} (h : Wr b σ w g ws) : Wr b σ w.drew g ws := h.pure (Keep.refl _ w).drew

set_option maxHeartbeats 1000000 in
theorem w_number_bad1 (b : Nat) (σ : Nat → Addr) (g : Nat) (ws : WS) (he0 : ws.e = none) (n : Int) (w : World) (hG : Gl b σ w) (hR : Wr b σ w g ws) (hn : n < 0 ∨ 256 ≤ n) :
    Calls Tryz.prog 152 #[.pointer (some ⟨g, 0, none⟩), .int .i64 n, .int .i64 1] w fun e w' => e = .returned (.tuple #[]) ∧ Wr b σ w' g (ws.fail ⟨4, 129, ws.all.size⟩) ∧ From g w w' := by
  have h := w_off b σ g ws w hR
  rw [he0] at h
  simp only [Option.isSome] at h
  have HO := Lib.hid h
  obtain ⟨v, x, hb, ho, he, hbg⟩ := hR
  have c0 := hb.cell 0
  simp at c0
  have cg := hG.c4
  have hlow := hG.low
  have hlt := hb.lt
  have HB := Lib.hid hb
  have HW := Lib.hid ho
  have hN : Hid (n < 0 ∨ 256 ≤ n) := hn
  obtain ⟨A, c, rfl⟩ := own_shape ho
  clear h hb ho hG he he0 hn
  rcases hN.out with hn | hn
  · clear hN
    go_enter Tryz.func152, Tryz.ntmps152
    go_wp2_with fail
    refine HO.out.mono ?_; rintro e w' ⟨rfl, rfl⟩
    go_wp2_with fail
    go_region_with (first
      | (go_at_call 68; refine (new_any σ 4 _ _ _ (by omega) (by omega)).mono ?_; rintro e w' ⟨g', rfl, rfl, rfl⟩)
      | (go_at_call 173; refine (w_fail g _ _ _ _ _ (by exact HB.out.alloc _)).mono ?_; rintro e w' ⟨rfl, rfl⟩))
    all_goals
      go_wp2_with fail
      refine bodyPost_ret (results_none rfl _ _ _) rfl ?_
      have h := Wr.failed (σ := σ) HB.out HW.out hbg 4 129 ws.all.size (by omega) (by omega)
      exact ⟨rfl, h.1.drew, h.2.drew⟩
  · clear hN
    have hn2 : ¬ n < 0 := by omega
    go_enter Tryz.func152, Tryz.ntmps152
    go_wp2_with fail
    refine HO.out.mono ?_; rintro e w' ⟨rfl, rfl⟩
    go_wp2_with fail
    go_region_with (first
      | (go_at_call 68; refine (new_any σ 4 _ _ _ (by omega) (by omega)).mono ?_; rintro e w' ⟨g', rfl, rfl, rfl⟩)
      | (go_at_call 173; refine (w_fail g _ _ _ _ _ (by exact HB.out.alloc _)).mono ?_; rintro e w' ⟨rfl, rfl⟩))
    all_goals
      go_wp2_with fail
      refine bodyPost_ret (results_none rfl _ _ _) rfl ?_
      have h := Wr.failed (σ := σ) HB.out HW.out hbg 4 129 ws.all.size (by omega) (by omega)
      exact ⟨rfl, h.1.drew, h.2.drew⟩

set_option maxHeartbeats 1000000 in
theorem w_number_bad2 (b : Nat) (σ : Nat → Addr) (g : Nat) (ws : WS) (he0 : ws.e = none) (n : Int) (w : World) (hG : Gl b σ w) (hR : Wr b σ w g ws) (hn : n < 0 ∨ 65536 ≤ n) :
    Calls Tryz.prog 152 #[.pointer (some ⟨g, 0, none⟩), .int .i64 n, .int .i64 2] w fun e w' => e = .returned (.tuple #[]) ∧ Wr b σ w' g (ws.fail ⟨4, 129, ws.all.size⟩) ∧ From g w w' := by
  have h := w_off b σ g ws w hR
  rw [he0] at h
  simp only [Option.isSome] at h
  have HO := Lib.hid h
  obtain ⟨v, x, hb, ho, he, hbg⟩ := hR
  have c0 := hb.cell 0
  simp at c0
  have cg := hG.c4
  have hlow := hG.low
  have hlt := hb.lt
  have HB := Lib.hid hb
  have HW := Lib.hid ho
  have hN : Hid (n < 0 ∨ 65536 ≤ n) := hn
  obtain ⟨A, c, rfl⟩ := own_shape ho
  clear h hb ho hG he he0 hn
  rcases hN.out with hn | hn
  · clear hN
    go_enter Tryz.func152, Tryz.ntmps152
    go_wp2_with fail
    refine HO.out.mono ?_; rintro e w' ⟨rfl, rfl⟩
    go_wp2_with fail
    go_region_with (first
      | (go_at_call 68; refine (new_any σ 4 _ _ _ (by omega) (by omega)).mono ?_; rintro e w' ⟨g', rfl, rfl, rfl⟩)
      | (go_at_call 173; refine (w_fail g _ _ _ _ _ (by exact HB.out.alloc _)).mono ?_; rintro e w' ⟨rfl, rfl⟩))
    all_goals
      go_wp2_with fail
      refine bodyPost_ret (results_none rfl _ _ _) rfl ?_
      have h := Wr.failed (σ := σ) HB.out HW.out hbg 4 129 ws.all.size (by omega) (by omega)
      exact ⟨rfl, h.1.drew, h.2.drew⟩
  · clear hN
    have hn2 : ¬ n < 0 := by omega
    go_enter Tryz.func152, Tryz.ntmps152
    go_wp2_with fail
    refine HO.out.mono ?_; rintro e w' ⟨rfl, rfl⟩
    go_wp2_with fail
    go_region_with (first
      | (go_at_call 68; refine (new_any σ 4 _ _ _ (by omega) (by omega)).mono ?_; rintro e w' ⟨g', rfl, rfl, rfl⟩)
      | (go_at_call 173; refine (w_fail g _ _ _ _ _ (by exact HB.out.alloc _)).mono ?_; rintro e w' ⟨rfl, rfl⟩))
    all_goals
      go_wp2_with fail
      refine bodyPost_ret (results_none rfl _ _ _) rfl ?_
      have h := Wr.failed (σ := σ) HB.out HW.out hbg 4 129 ws.all.size (by omega) (by omega)
      exact ⟨rfl, h.1.drew, h.2.drew⟩

set_option maxHeartbeats 1000000 in
theorem w_number_bad4 (b : Nat) (σ : Nat → Addr) (g : Nat) (ws : WS) (he0 : ws.e = none) (n : Int) (w : World) (hG : Gl b σ w) (hR : Wr b σ w g ws) (hn : n < 0 ∨ 4294967296 ≤ n) :
    Calls Tryz.prog 152 #[.pointer (some ⟨g, 0, none⟩), .int .i64 n, .int .i64 4] w fun e w' => e = .returned (.tuple #[]) ∧ Wr b σ w' g (ws.fail ⟨4, 129, ws.all.size⟩) ∧ From g w w' := by
  have h := w_off b σ g ws w hR
  rw [he0] at h
  simp only [Option.isSome] at h
  have HO := Lib.hid h
  obtain ⟨v, x, hb, ho, he, hbg⟩ := hR
  have c0 := hb.cell 0
  simp at c0
  have cg := hG.c4
  have hlow := hG.low
  have hlt := hb.lt
  have HB := Lib.hid hb
  have HW := Lib.hid ho
  have hN : Hid (n < 0 ∨ 4294967296 ≤ n) := hn
  obtain ⟨A, c, rfl⟩ := own_shape ho
  clear h hb ho hG he he0 hn
  rcases hN.out with hn | hn
  · clear hN
    go_enter Tryz.func152, Tryz.ntmps152
    go_wp2_with fail
    refine HO.out.mono ?_; rintro e w' ⟨rfl, rfl⟩
    go_wp2_with fail
    go_region_with (first
      | (go_at_call 68; refine (new_any σ 4 _ _ _ (by omega) (by omega)).mono ?_; rintro e w' ⟨g', rfl, rfl, rfl⟩)
      | (go_at_call 173; refine (w_fail g _ _ _ _ _ (by exact HB.out.alloc _)).mono ?_; rintro e w' ⟨rfl, rfl⟩))
    all_goals
      go_wp2_with fail
      refine bodyPost_ret (results_none rfl _ _ _) rfl ?_
      have h := Wr.failed (σ := σ) HB.out HW.out hbg 4 129 ws.all.size (by omega) (by omega)
      exact ⟨rfl, h.1.drew, h.2.drew⟩
  · clear hN
    have hn2 : ¬ n < 0 := by omega
    go_enter Tryz.func152, Tryz.ntmps152
    go_wp2_with fail
    refine HO.out.mono ?_; rintro e w' ⟨rfl, rfl⟩
    go_wp2_with fail
    go_region_with (first
      | (go_at_call 68; refine (new_any σ 4 _ _ _ (by omega) (by omega)).mono ?_; rintro e w' ⟨g', rfl, rfl, rfl⟩)
      | (go_at_call 173; refine (w_fail g _ _ _ _ _ (by exact HB.out.alloc _)).mono ?_; rintro e w' ⟨rfl, rfl⟩))
    all_goals
      go_wp2_with fail
      refine bodyPost_ret (results_none rfl _ _ _) rfl ?_
      have h := Wr.failed (σ := σ) HB.out HW.out hbg 4 129 ws.all.size (by omega) (by omega)
      exact ⟨rfl, h.1.drew, h.2.drew⟩
end Go.Proofs.YthokkjdolcfhcaaGreatDoor

set_option linter.unusedVariables false
namespace Go.Proofs.YthokkjdolcfhcaaGreatDoor
open Go.RowKit

theorem WS.num_off {ws : WS} {f : Flt} (h : ws.e = some f) (k : Nat) (n : Int) : ws.num k n = ws := by unfold WS.num; rw [h]
theorem WS.raw_off {ws : WS} {f : Flt} (h : ws.e = some f) (s : ByteArray) : ws.raw s = ws := by unfold WS.raw; rw [h]
theorem WS.num_bad {ws : WS} (h : ws.e = none) (k : Nat) (n : Int) (hn : n < 0 ∨ 256 ^ k ≤ n) : ws.num k n = ws.fail ⟨4, 129, ws.all.size⟩ := by
  unfold WS.num
  rw [h]
  simp only
  rw [if_pos hn]
theorem WS.num_good {ws : WS} (h : ws.e = none) (k : Nat) (n : Int) (hn : ¬ (n < 0 ∨ 256 ^ k ≤ n)) : ws.num k n = ws.add (beS k n.toNat) := by
  unfold WS.num
  rw [h]
  simp only
  rw [if_neg hn]

theorem w_num (b : Nat) (σ : Nat → Addr) (g : Nat) (ws : WS) (k : Nat) (hk : k = 1 ∨ k = 2 ∨ k = 4) (m : Int) (hm : m = (k : Int)) (hl : ws.all.size ≤ 140737488351232) (n : Int) (w : World) (hG : Gl b σ w) (hR : Wr b σ w g ws) :
    Calls Tryz.prog 152 #[.pointer (some ⟨g, 0, none⟩), .int .i64 n, .int .i64 m] w fun e w' => e = .returned (.tuple #[]) ∧ Wr b σ w' g (ws.num k n) ∧ From g w w' := by
  subst hm
  cases he : ws.e with
  | some f =>
    rw [WS.num_off he]
    refine (w_number_off b σ g ws f he n k w hR).mono ?_
    rintro e w' ⟨rfl, rfl⟩
    exact ⟨rfl, hR, From.refl _ _⟩
  | none =>
    by_cases hn : n < 0 ∨ 256 ^ k ≤ n
    · rw [WS.num_bad he k n hn]
      rcases hk with rfl | rfl | rfl
      · exact w_number_bad1 b σ g ws he n w hG hR (by simpa using hn)
      · exact w_number_bad2 b σ g ws he n w hG hR (by simpa using hn)
      · exact w_number_bad4 b σ g ws he n w hG hR (by simpa using hn)
    · rw [WS.num_good he k n hn]
      rcases hk with rfl | rfl | rfl
      · exact w_number1 b σ g ws he hl n w hG hR (by omega) (by omega)
      · exact w_number2 b σ g ws he hl n w hG hR (by omega) (by omega)
      · exact w_number4 b σ g ws he hl n w hG hR (by omega) (by omega)

theorem w_u8 (b : Nat) (σ : Nat → Addr) (g : Nat) (ws : WS) (hl : ws.all.size ≤ 140737488351232) (n : Int) (w : World) (hG : Gl b σ w) (hR : Wr b σ w g ws) :
    Calls Tryz.prog 79 #[.pointer (some ⟨g, 0, none⟩), .int .i64 n] w fun e w' => e = .returned (.tuple #[]) ∧ Wr b σ w' g (ws.num 1 n) ∧ From g w w' := by
  have HC := Lib.hid (w_num b σ g ws 1 (by decide) 1 rfl hl n w hG hR)
  clear hG hR
  go_enter Tryz.func79, Tryz.ntmps79
  go_wp2_with fail
  refine HC.out.mono ?_
  rintro e w1 ⟨rfl, h1, h2⟩
  have HR1 := Lib.hid h1
  have HP := Lib.hid h2
  clear h1 h2
  go_wp2_with fail
  go_end0
  exact ⟨rfl, HR1.out, HP.out⟩
theorem w_u16 (b : Nat) (σ : Nat → Addr) (g : Nat) (ws : WS) (hl : ws.all.size ≤ 140737488351232) (n : Int) (w : World) (hG : Gl b σ w) (hR : Wr b σ w g ws) :
    Calls Tryz.prog 97 #[.pointer (some ⟨g, 0, none⟩), .int .i64 n] w fun e w' => e = .returned (.tuple #[]) ∧ Wr b σ w' g (ws.num 2 n) ∧ From g w w' := by
  have HC := Lib.hid (w_num b σ g ws 2 (by decide) 2 rfl hl n w hG hR)
  clear hG hR
  go_enter Tryz.func97, Tryz.ntmps97
  go_wp2_with fail
  refine HC.out.mono ?_
  rintro e w1 ⟨rfl, h1, h2⟩
  have HR1 := Lib.hid h1
  have HP := Lib.hid h2
  clear h1 h2
  go_wp2_with fail
  go_end0
  exact ⟨rfl, HR1.out, HP.out⟩
theorem w_u32 (b : Nat) (σ : Nat → Addr) (g : Nat) (ws : WS) (hl : ws.all.size ≤ 140737488351232) (n : Int) (w : World) (hG : Gl b σ w) (hR : Wr b σ w g ws) :
    Calls Tryz.prog 129 #[.pointer (some ⟨g, 0, none⟩), .int .i64 n] w fun e w' => e = .returned (.tuple #[]) ∧ Wr b σ w' g (ws.num 4 n) ∧ From g w w' := by
  have HC := Lib.hid (w_num b σ g ws 4 (by decide) 4 rfl hl n w hG hR)
  clear hG hR
  go_enter Tryz.func129, Tryz.ntmps129
  go_wp2_with fail
  refine HC.out.mono ?_
  rintro e w1 ⟨rfl, h1, h2⟩
  have HR1 := Lib.hid h1
  have HP := Lib.hid h2
  clear h1 h2
  go_wp2_with fail
  go_end0
  exact ⟨rfl, HR1.out, HP.out⟩

set_option maxRecDepth 100000 in
set_option maxHeartbeats 1000000 in
theorem w_raw (b : Nat) (σ : Nat → Addr) (g : Nat) (ws : WS) (s : ByteArray) (hl : ws.all.size + s.size ≤ 140737488351232) (w : World) (hG : Gl b σ w) (hR : Wr b σ w g ws) :
    Calls Tryz.prog 80 #[.pointer (some ⟨g, 0, none⟩), .string s] w fun e w' => e = .returned (.tuple #[]) ∧ Wr b σ w' g (ws.raw s) ∧ From g w w' := by
  have h := w_off b σ g ws w hR
  have HR := Lib.hid hR
  cases hx : ws.e with
  | some f =>
    rw [hx] at h
    simp only [Option.isSome] at h
    have HO := Lib.hid h
    have HX := Lib.hid hx
    clear h hx hR hG hl
    go_enter Tryz.func80, Tryz.ntmps80
    go_wp2_with fail
    refine HO.out.mono ?_; rintro e w' ⟨rfl, rfl⟩
    go_wp2_with fail
    go_end0
    rw [WS.raw_off HX.out]
    exact ⟨rfl, HR.out, From.refl _ _⟩
  | none =>
    rw [hx] at h
    simp only [Option.isSome] at h
    have HO := Lib.hid h
    have HX := Lib.hid hx
    obtain ⟨i0, hi0, hz0, hz1, hz2⟩ := info_parts info_u8
    have HI0 : Hid (Tryz.prog.info? 5 = some i0) := hi0
    have HI1 := Lib.hid hz0
    have HI2 := Lib.hid hz1
    have HI3 := Lib.hid hz2
    obtain ⟨v, x, hb, ho, he, hbg⟩ := hR
    rw [hx] at he
    simp only [Er] at he
    subst he
    have HB := Lib.hid hb
    have HW := Lib.hid ho
    have d0 := hb.cell 0
    simp at d0
    have HBS : Hid (g ≤ w.heap.size) := by have := hb.lt; show g ≤ _; omega
    obtain ⟨A0, c0, rfl⟩ := own_shape ho
    clear hi0 hz0 hz1 hz2 hG h hx hb ho
    go_enter Tryz.func80, Tryz.ntmps80
    go_wp2_with fail
    refine HO.out.mono ?_; rintro e w' ⟨rfl, rfl⟩
    go_wp2_with (at_builtin; refine Lib.wpList_append_own_string _ rfl (.tmp 11) (.tmp 12) 99 9 rfl g 5 i0 Tryz.underlying99 Tryz.underlying9 HI0.out HI1.out HI2.out HI3.out (.slice A0 ws.all.size c0) ws.all.size (Lib.strCells ws.all) rfl HW.out s rfl ?mx ?bb HBS.out ?k)
    case mx => unfold maxLen; omega
    case bb => omega
    intro v1 y1 ho1 hg1 _
    obtain ⟨A1, c1, rfl⟩ := own_shape ho1
    have hgr1 := wr_grown HB.out HW.out (Keep.refl _ w) hg1
    have hst1 := wr_stored (w0 := w) hgr1.1 ho1 hgr1.2
    have e1 := hgr1.1.cell 0
    have f1 := hgr1.1.frozen 0
    simp at e1
    have HB1 := Lib.hid hst1.1
    have HW1 := Lib.hid hst1.2.1
    have HK1 := Lib.hid hst1.2.2
    clear ho1 hg1 hgr1 hst1
    go_wp2_with fail
    go_end0
    have hw : ws.raw s = ws.add s := by unfold WS.raw; rw [HX.out]
    rw [hw]
    refine ⟨rfl, ⟨_, .nilIface, HB1.out, ?_, ?_, hbg⟩, HK1.out⟩
    · have h := HW1.out
      have h1 : ws.all.size + s.size = (ws.add s).all.size := by rw [← WS.add_size ws _ _ rfl]
      have h2 : Lib.strCells ws.all ++ Lib.strCells s = Lib.strCells (ws.add s).all := WS.add_row ws _ _ rfl
      rw [← h1, ← h2]
      exact h
    · show Er σ _ _ ws.e
      rw [HX.out]
      rfl

theorem Gl.from_ {b : Nat} {σ : Nat → Addr} {w w' : World} {g : Nat} {ws : WS} (h : Gl b σ w) (k : From g w w') (hR : Wr b σ w' g ws) : Gl b σ w' :=
  h.keep k.low fun i hi => by
    obtain ⟨v, x, _, _, _, hbg⟩ := hR
    omega

theorem w_bin (b : Nat) (σ : Nat → Addr) (g : Nat) (ws : WS) (s : ByteArray) (hl : ws.all.size + 2 + s.size ≤ 140737488351232) (w : World) (hG : Gl b σ w) (hR : Wr b σ w g ws) :
    Calls Tryz.prog 128 #[.pointer (some ⟨g, 0, none⟩), .string s] w fun e w' => e = .returned (.tuple #[]) ∧ Wr b σ w' g (ws.bin s) ∧ From g w w' := by
  have hsz := WS.num_size ws 2 s.size
  have HC := Lib.hid (w_u16 b σ g ws (by omega) s.size w hG hR)
  have HL : Hid ((ws.num 2 s.size).all.size + s.size ≤ 140737488351232) := by show _ ≤ _; omega
  have HG := Lib.hid hG
  clear hG hR hsz
  go_enter Tryz.func128, Tryz.ntmps128
  go_wp2_with fail
  refine HC.out.mono ?_
  rintro e w1 ⟨rfl, h1, h2⟩
  have HR1 := Lib.hid h1
  have HP := Lib.hid h2
  have HG1 := Lib.hid (HG.out.from_ h2 h1)
  clear h1 h2
  go_wp2_with fail
  refine (w_raw b σ g _ s HL.out w1 HG1.out HR1.out).mono ?_
  rintro e w2 ⟨rfl, h1, h2⟩
  have HR2 := Lib.hid h1
  have HP2 := Lib.hid (HP.out.trans h2)
  clear h1 h2
  go_wp2_with fail
  go_end0
  exact ⟨rfl, HR2.out, HP2.out⟩
end Go.Proofs.YthokkjdolcfhcaaGreatDoor

set_option linter.unusedVariables false
namespace Go.Proofs.YthokkjdolcfhcaaGreatDoor
open Go.RowKit

theorem Wr.store_err {b : Nat} {σ : Nat → Addr} {w : World} {g g' : Nat} {ws : WS} {f : Flt} (hR : Wr b σ w g ws) (hf : f.ok) (hc : ErC σ w g' f) :
    Wr b σ (w.setCell ⟨g, 1, none⟩ (.iface 148 (.pointer (some ⟨g', 0, none⟩)))) g (ws.fail f) ∧ From g w (w.setCell ⟨g, 1, none⟩ (.iface 148 (.pointer (some ⟨g', 0, none⟩)))) := by
  obtain ⟨v, x, hb, ho, he, hg⟩ := hR
  have K : Only g w (w.setCell ⟨g, 1, none⟩ (.iface 148 (.pointer (some ⟨g', 0, none⟩)))) := (Keep.refl (fun k => k = g) w).setCell (.inl rfl) _
  refine ⟨⟨v, _, by have h := hb.set_ 1 (.iface 148 (.pointer (some ⟨g', 0, none⟩))); simpa using h, K.own ho (hb.ne_own ho (by decide)), ⟨hf, _, rfl, ?_⟩, hg⟩, From.of_only K⟩
  exact hc.keep K fun k cs hbk hk => (Blk.ne_ hbk hb (by decide)) hk

def BytesPost (σ : Nat → Addr) (ws : WS) (w : World) (e : Ending) (w' : World) : Prop :=
  w = w' ∧ match ws.e with
  | some f => ∃ v, e = .returned (.tuple #[.string noBytes, v]) ∧ Er σ w v (some f)
  | none => e = .returned (.tuple #[.string ws.all, .nilIface])

theorem own_string {w : World} {base n : Nat} {v : Value} {s : ByteArray} (h : w.ownsRow base 5 1 v n (Lib.strCells s)) :
    (convert 99 9 v).run Tryz.prog w = .ok (.string s) w := by
  have hn : n = s.size := by have h1 := h.1; rw [Lib.strCells_length] at h1; omega
  rcases h.2 with ⟨rfl, rfl⟩ | ⟨g, cap, cur, rfl, hb, hh, r⟩
  · have h0 : s = noBytes := by
      apply ByteArray.ext
      apply Array.ext'
      have : s.data.toList.length = 0 := by
        have : s.data.size = 0 := hn.symm
        simpa using this
      rw [List.length_eq_zero_iff.1 this]
      rfl
    rw [h0, run_convert_bytes_string w 99 9 5 none 0 0 Tryz.underlying99 Tryz.underlying5 Tryz.underlying9]
    simp [Conv.bytesToString]
    rfl
  · have hl : s.data.toList.length = n := by rw [hn]; simp
    have h2 := run_convert_bytes_back (P := Tryz.prog) w 99 9 5 ⟨g, 0, none⟩ cap s.data.toList Tryz.underlying99 Tryz.underlying5 Tryz.underlying9 (fun j hj => by
      refine h.cells (g := g) rfl j _ ?_
      rw [Lib.strCells, List.getElem?_map, List.getElem?_eq_getElem hj]
      rfl)
    rw [hl] at h2
    simpa using h2

set_option maxHeartbeats 1000000 in
theorem w_bytes (b : Nat) (σ : Nat → Addr) (g : Nat) (ws : WS) (w : World) (hR : Wr b σ w g ws) :
    Calls Tryz.prog 81 #[.pointer (some ⟨g, 0, none⟩)] w (BytesPost σ ws w) := by
  have HR := Lib.hid hR
  have HF := Lib.hid (w_first b σ g ws w hR)
  cases he0 : ws.e with
  | some f =>
    obtain ⟨v, x, hb, ho, he, hbg⟩ := hR
    have d1 := hb.cell 1
    simp at d1
    rw [he0] at he
    obtain ⟨hok, g', rfl, hc⟩ := he
    have HE : Hid (Er σ w (.iface 148 (.pointer (some ⟨g', 0, none⟩))) (some f)) := ⟨hok, g', rfl, hc⟩
    have HX := Lib.hid he0
    clear hb ho hok hc he0
    go_enter Tryz.func81, Tryz.ntmps81
    go_wp2_with fail
    refine HF.out.mono ?_; rintro e w' ⟨y, rfl, hy, rfl⟩
    have HY := Lib.hid hy
    clear hy
    go_wp2_with fail
    go_ret2
    unfold BytesPost
    have h := HY.out
    rw [HX.out] at h ⊢
    exact ⟨rfl, _, rfl, h⟩
  | none =>
    obtain ⟨v, x, hb, ho, he, hbg⟩ := hR
    have d0 := hb.cell 0
    have d1 := hb.cell 1
    simp at d0 d1
    rw [he0] at he
    simp only [Er] at he
    subst he
    have hcv := own_string ho
    have HX := Lib.hid he0
    obtain ⟨A, c, rfl⟩ := own_shape ho
    clear hb ho he0
    go_enter Tryz.func81, Tryz.ntmps81
    go_wp2_with fail
    go_ret2
    unfold BytesPost
    rw [HX.out]
    exact ⟨rfl, rfl⟩

theorem WS.var_off {ws : WS} {f : Flt} (h : ws.e = some f) (n : Int) : ws.var n = ws := by unfold WS.var; rw [h]
theorem WS.text_off {ws : WS} {f : Flt} (h : ws.e = some f) (s : ByteArray) : ws.text s = ws := by unfold WS.text; rw [h]

set_option maxRecDepth 100000 in
set_option maxHeartbeats 1000000 in
theorem w_var (b : Nat) (σ : Nat → Addr) (g : Nat) (ws : WS) (n : Int) (hl : ws.all.size + 4 ≤ 140737488351232) (w : World) (hG : Gl b σ w) (hR : Wr b σ w g ws) :
    Calls Tryz.prog 151 #[.pointer (some ⟨g, 0, none⟩), .int .i64 n] w fun e w' => e = .returned (.tuple #[]) ∧ Wr b σ w' g (ws.var n) ∧ From g w w' := by
  have HG := Lib.hid hG
  have HR := Lib.hid hR
  have h := w_off b σ g ws w hR
  cases he0 : ws.e with
  | some f =>
    rw [he0] at h
    simp only [Option.isSome] at h
    have HO := Lib.hid h
    have HX := Lib.hid he0
    clear h he0 hR hG hl
    go_enter Tryz.func151, Tryz.ntmps151
    go_wp2_with fail
    refine HO.out.mono ?_; rintro e w' ⟨rfl, rfl⟩
    go_wp2_with fail
    refine bodyPost_ret (results_none rfl _ _ _) rfl ?_
    rw [WS.var_off HX.out]
    exact ⟨rfl, HR.out, From.refl _ _⟩
  | none =>
    rw [he0] at h
    simp only [Option.isSome] at h
    have HO := Lib.hid h
    have HX := Lib.hid he0
    have HPUT := Lib.hid (show Calls Tryz.prog 192 #[.int .i64 n] w (PutPost σ n w) from by
      by_cases hn : n < 0 ∨ 268435455 < n
      · exact v_put_bad b σ n w hG hn
      · obtain ⟨k, rfl⟩ : ∃ k : Nat, n = k := ⟨n.toNat, by omega⟩
        exact v_put_good b σ k _ w hG (by omega) rfl)
    clear h hR hG he0
    go_enter Tryz.func151, Tryz.ntmps151
    go_wp2_with fail
    refine HO.out.mono ?_; rintro e w' ⟨rfl, rfl⟩
    go_wp2_with fail
    refine HPUT.out.mono ?_
    intro e w1 hp
    unfold PutPost at hp
    cases hv : vput n with
    | none =>
      rw [hv] at hp
      obtain ⟨v, rfl, ⟨hok, g', rfl, hc⟩, hP⟩ := hp
      have HV : Hid (ws.var n = ws.fail (deeperS ⟨4, 129, 0⟩ ws.all.size)) := by show _ = _; unfold WS.var; rw [HX.out]; simp only; rw [hv]
      have HR1 := Lib.hid (HR.out.pure hP)
      have HG1 := Lib.hid (HG.out.pure hP)
      have HC1 := Lib.hid hc
      have HP1 := Lib.hid hP
      obtain ⟨v1, x1, hb1, ho1, _, _⟩ := HR1.out
      have d0 := hb1.cell 0
      simp at d0
      obtain ⟨A, c, rfl⟩ := own_shape ho1
      clear hv hok hc hP hb1 ho1
      go_wp2_with fail
      refine (deeper_some σ b g' _ _ w1 HG1.out HC1.out).mono ?_; rintro e w3 ⟨g3, rfl, hc3, hP3⟩
      have HR3 := Lib.hid (HR1.out.pure hP3)
      obtain ⟨v3, x3, hb3, ho3, _, _⟩ := HR3.out
      have HB3 := Lib.hid hb3
      have HST := Lib.hid (Wr.store_err HR3.out (f := ⟨4, 129, furtherS 0 ws.all.size⟩) (flt_ok (by omega) (by omega)) hc3)
      have HP3 := Lib.hid ((From.of_pure (g := g) HP1.out).trans (From.of_pure hP3))
      clear hc3 hP3 hb3 ho3
      go_wp2_with fail
      refine (w_fail g _ _ _ _ _ HB3.out).mono ?_; rintro e w4 ⟨rfl, rfl⟩
      go_wp2_with fail
      refine bodyPost_ret (results_none rfl _ _ _) rfl ?_
      rw [HV.out]
      exact ⟨rfl, HST.out.1, HP3.out.trans HST.out.2⟩
    | some s =>
      rw [hv] at hp
      obtain ⟨rfl, hP⟩ := hp
      have hvs := vput_size hv
      have HV : Hid (ws.var n = ws.add s) := by show _ = _; unfold WS.var; rw [HX.out]; simp only; rw [hv]
      have HR1 := Lib.hid (HR.out.pure hP)
      have HP1 := Lib.hid hP
      obtain ⟨i0, hi0, hz0, hz1, hz2⟩ := info_parts info_u8
      have HI0 : Hid (Tryz.prog.info? 5 = some i0) := hi0
      have HI1 := Lib.hid hz0
      have HI2 := Lib.hid hz1
      have HI3 := Lib.hid hz2
      obtain ⟨v, x, hb, ho, he, hbg⟩ := HR1.out
      rw [HX.out] at he
      simp only [Er] at he
      subst he
      have HB := Lib.hid hb
      have HW := Lib.hid ho
      have d0 := hb.cell 0
      simp at d0
      have HBS : Hid (g ≤ w1.heap.size) := by have := hb.lt; show g ≤ _; omega
      obtain ⟨A0, c0, rfl⟩ := own_shape ho
      clear hi0 hz0 hz1 hz2 hb ho hP hv
      go_wp2_with (at_builtin; refine Lib.wpList_append_own_string _ rfl (.tmp 28) (.tmp 29) 99 9 rfl g 5 i0 Tryz.underlying99 Tryz.underlying9 HI0.out HI1.out HI2.out HI3.out (.slice A0 ws.all.size c0) ws.all.size (Lib.strCells ws.all) rfl HW.out s rfl ?mx ?bb HBS.out ?k)
      case mx => unfold maxLen; omega
      case bb => omega
      intro v1 y1 ho1 hg1 _
      obtain ⟨A1, c1, rfl⟩ := own_shape ho1
      have hgr1 := wr_grown HB.out HW.out (Keep.refl _ w1) hg1
      have hst1 := wr_stored (w0 := w1) hgr1.1 ho1 hgr1.2
      have e1 := hgr1.1.cell 0
      have f1 := hgr1.1.frozen 0
      simp at e1
      have HB1 := Lib.hid hst1.1
      have HW1 := Lib.hid hst1.2.1
      have HK1 := Lib.hid ((From.of_pure (g := g) HP1.out).trans hst1.2.2)
      clear ho1 hg1 hgr1 hst1
      go_wp2_with fail
      go_end0
      rw [HV.out]
      refine ⟨rfl, ⟨_, .nilIface, HB1.out, ?_, ?_, hbg⟩, HK1.out⟩
      · have h := HW1.out
        have h1 : ws.all.size + s.size = (ws.add s).all.size := by rw [← WS.add_size ws _ _ rfl]
        have h2 : Lib.strCells ws.all ++ Lib.strCells s = Lib.strCells (ws.add s).all := WS.add_row ws _ _ rfl
        rw [← h1, ← h2]
        exact h
      · show Er σ _ _ ws.e
        rw [HX.out]
        rfl

set_option maxHeartbeats 1000000 in
theorem w_text (b : Nat) (σ : Nat → Addr) (g : Nat) (ws : WS) (s : ByteArray) (hl : ws.all.size + 2 + s.size ≤ 140737488351232) (w : World) (hG : Gl b σ w) (hR : Wr b σ w g ws) :
    Calls Tryz.prog 101 #[.pointer (some ⟨g, 0, none⟩), .string s] w fun e w' => e = .returned (.tuple #[]) ∧ Wr b σ w' g (ws.text s) ∧ From g w w' := by
  have HG := Lib.hid hG
  have HR := Lib.hid hR
  have h := w_off b σ g ws w hR
  cases he0 : ws.e with
  | some f =>
    rw [he0] at h
    simp only [Option.isSome] at h
    have HO := Lib.hid h
    have HX := Lib.hid he0
    clear h he0 hR hG hl
    go_enter Tryz.func101, Tryz.ntmps101
    go_wp2_with fail
    refine HO.out.mono ?_; rintro e w' ⟨rfl, rfl⟩
    go_wp2_with fail
    refine bodyPost_ret (results_none rfl _ _ _) rfl ?_
    rw [WS.text_off HX.out]
    exact ⟨rfl, HR.out, From.refl _ _⟩
  | none =>
    rw [he0] at h
    simp only [Option.isSome] at h
    have HO := Lib.hid h
    have HX := Lib.hid he0
    have HC := Lib.hid (u_check b σ s w hG (by omega))
    clear h hR hG he0
    go_enter Tryz.func101, Tryz.ntmps101
    go_wp2_with fail
    refine HO.out.mono ?_; rintro e w' ⟨rfl, rfl⟩
    go_wp2_with fail
    refine HC.out.mono ?_
    rintro e w1 ⟨v, rfl, hE, hP⟩
    have HR1 := Lib.hid (HR.out.pure hP)
    have HG1 := Lib.hid (HG.out.pure hP)
    have HP1 := Lib.hid hP
    cases hu : uCheck s with
    | none =>
      have HT : Hid (ws.text s = ws.bin s) := by show _ = _; unfold WS.text; rw [HX.out]; simp only; rw [hu]
      rw [hu] at hE
      simp only [Er] at hE
      subst hE
      clear hu hP
      go_wp2_with fail
      refine (w_bin b σ g ws s hl w1 HG1.out HR1.out).mono ?_
      rintro e w2 ⟨rfl, h1, h2⟩
      have HR2 := Lib.hid h1
      have HP2 := Lib.hid ((From.of_pure (g := g) HP1.out).trans h2)
      clear h1 h2
      go_wp2_with fail
      go_end0
      rw [HT.out]
      exact ⟨rfl, HR2.out, HP2.out⟩
    | some f =>
      have HT : Hid (ws.text s = ws.fail (deeperS f (ws.all.size + 2))) := by show _ = _; unfold WS.text; rw [HX.out]; simp only; rw [hu]
      rw [hu] at hE
      obtain ⟨hok, g', rfl, hc⟩ := hE
      have HC1 := Lib.hid hc
      have HOK := Lib.hid hok
      obtain ⟨v1, x1, hb1, ho1, _, _⟩ := HR1.out
      have d0 := hb1.cell 0
      simp at d0
      obtain ⟨A, c, rfl⟩ := own_shape ho1
      clear hu hok hc hP hb1 ho1
      go_wp2_with fail
      refine (deeper_some σ b g' _ _ w1 HG1.out HC1.out).mono ?_; rintro e w3 ⟨g3, rfl, hc3, hP3⟩
      have HR3 := Lib.hid (HR1.out.pure hP3)
      obtain ⟨v3, x3, hb3, ho3, _, _⟩ := HR3.out
      have HB3 := Lib.hid hb3
      have HST := Lib.hid (Wr.store_err HR3.out (f := ⟨f.k, f.r, furtherS f.a ((ws.all.size : Int) + 2)⟩) HOK.out hc3)
      have HP3 := Lib.hid ((From.of_pure (g := g) HP1.out).trans (From.of_pure hP3))
      clear hc3 hP3 hb3 ho3
      go_wp2_with fail
      refine (w_fail g _ _ _ _ _ HB3.out).mono ?_; rintro e w4 ⟨rfl, rfl⟩
      go_wp2_with fail
      refine bodyPost_ret (results_none rfl _ _ _) rfl ?_
      rw [HT.out]
      exact ⟨rfl, HST.out.1, HP3.out.trans HST.out.2⟩
end Go.Proofs.YthokkjdolcfhcaaGreatDoor

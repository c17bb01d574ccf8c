/- The reader of package field: its methods by contract. Package varint: Take by contract. The reader of package field: its other methods by contract. The reader of package field: numbers of so many bytes, bytes with their length ahead, what is left, whether it is done. -/
import Derived.Test.YthokkjdolcfhcaaGreatDoorMb
import Derived.Test.YthokkjdolcfhcaaGreatDoorMa
import Derived.Deep.RegionHeld3
import Derived.Deep.RegionWith
import Derived.BigQuiet
import Derived.IntWalk
import Derived.Deep.QuietTactic
import Derived.Lib.ConvBytes

set_option linter.unusedVariables false
namespace Go.Proofs.YthokkjdolcfhcaaGreatDoor
open Go.RowKit

/-- A reader in memory. -/
def Rd (b : Nat) (σ : Nat → Addr) (w : World) (g : Nat) (st : RS) : Prop :=
  ∃ v, Blk w g 146 #[.string st.s, .int .i64 st.at_, v] ∧ Er σ w v st.e ∧ b ≤ g ∧ st.Ok

theorem new_reader (b : Nat) (σ : Nat → Addr) (s : ByteArray) (w : World) (hG : Gl b σ w) (hs : s.size ≤ 140737488351232) :
    Calls Tryz.prog 61 #[.string s] w fun e w' => ∃ g, e = .returned (.pointer (some ⟨g, 0, none⟩)) ∧ Rd b σ w' g ⟨s, 0, none⟩ ∧ g = w.heap.size ∧ Pure w w' := by
  have hz := hG.size
  have HG := Lib.hid hG
  clear hG
  go_enter Tryz.func61, Tryz.ntmps61
  go_wp2
  go_ret
  exact ⟨_, rfl, ⟨_, Blk.new _ _ _, rfl, hz, Nat.zero_le _, hs⟩, rfl, (Keep.refl _ _).alloc _⟩

theorem r_off (b : Nat) (σ : Nat → Addr) (g : Nat) (st : RS) (w : World) (hR : Rd b σ w g st) :
    Calls Tryz.prog 201 #[.pointer (some ⟨g, 0, none⟩)] w fun e w' => e = .returned (.bool st.e.isSome) ∧ w = w' := by
  obtain ⟨v, hb, he, hbg, hok⟩ := hR
  have c2 := hb.cell 2
  simp at c2
  obtain ⟨s, a, e⟩ := st
  cases e with
  | none =>
    simp only [Er] at he
    subst he
    go_enter Tryz.func201, Tryz.ntmps201
    go_wp2
    go_ret
    exact ⟨rfl, rfl⟩
  | some f =>
    obtain ⟨_, g', rfl, _⟩ := he
    go_enter Tryz.func201, Tryz.ntmps201
    go_wp2
    go_ret
    exact ⟨rfl, rfl⟩

theorem Rd.failed {b : Nat} {σ : Nat → Addr} {w : World} {g : Nat} {s : ByteArray} {a : Nat} {x : Value} (hb : Blk w g 146 #[.string s, .int .i64 a, x]) (hbg : b ≤ g) (hok : (⟨s, a, none⟩ : RS).Ok) (k : Nat) (r a' : Int) (hk : 1 ≤ k) (hk7 : k ≤ 7) :
    Rd b σ ((w.setCell ⟨g, 2, none⟩ (.iface 148 (.pointer (some ⟨w.heap.size, 0, none⟩)))).alloc (.cells #[.int .i64 r, .int .i64 a', .iface 256 (.pointer (some (σ k)))] 150)) g ⟨s, a, some ⟨k, r, a'⟩⟩ ∧
      Only g w ((w.setCell ⟨g, 2, none⟩ (.iface 148 (.pointer (some ⟨w.heap.size, 0, none⟩)))).alloc (.cells #[.int .i64 r, .int .i64 a', .iface 256 (.pointer (some (σ k)))] 150)) := by
  refine ⟨⟨_, (hb.set_ 2 _).alloc _, ⟨⟨hk, hk7⟩, _, rfl, .base _ _ _ _ ?_⟩, hbg, hok⟩, ((Keep.refl (fun k => k = g) w).setCell (.inl rfl) _).alloc _⟩
  have h := Blk.new (w.setCell ⟨g, 2, none⟩ (.iface 148 (.pointer (some ⟨w.heap.size, 0, none⟩)))) 150 #[.int .i64 r, .int .i64 a', .iface 256 (.pointer (some (σ k)))]
  simpa [World.setCell] using h
theorem Rd.drewN {b : Nat} {σ : Nat → Addr} {w : World} {g : Nat} {st : RS} (h : Rd b σ w g st) (n : Nat) : Rd b σ (w.drewN n) g st := by
  obtain ⟨v, hb, he, h1, h2⟩ := h
  exact ⟨v, hb, he.pure ((Keep.refl _ w).drewN n), h1, h2⟩

theorem r_raw_off (b : Nat) (σ : Nat → Addr) (g : Nat) (s : ByteArray) (a : Nat) (f : Flt) (n : Int) (w : World) (hR : Rd b σ w g ⟨s, a, some f⟩) :
    Calls Tryz.prog 137 #[.pointer (some ⟨g, 0, none⟩), .int .i64 n] w fun e w' => e = .returned (.string noBytes) ∧ w = w' := by
  have HR := Lib.hid hR
  clear hR
  go_enter Tryz.func137, Tryz.ntmps137
  go_wp2_with (go_at_call 201; refine (r_off b σ g _ _ HR.out).mono ?_; rintro e w' ⟨rfl, rfl⟩)
  go_ret
  exact ⟨rfl, rfl⟩

set_option maxHeartbeats 1000000 in
theorem r_raw_neg (b : Nat) (σ : Nat → Addr) (g : Nat) (s : ByteArray) (a : Nat) (n : Int) (w : World) (hG : Gl b σ w) (hR : Rd b σ w g ⟨s, a, none⟩) (hn : n < 0) :
    Calls Tryz.prog 137 #[.pointer (some ⟨g, 0, none⟩), .int .i64 n] w fun e w' => e = .returned (.string noBytes) ∧ Rd b σ w' g ⟨s, a, some ⟨4, 129, a⟩⟩ ∧ Only g w w' := by
  have HR := Lib.hid hR
  obtain ⟨v, hb, he, hbg, hok⟩ := hR
  have c0 := hb.cell 0
  have c1 := hb.cell 1
  have c2 := hb.cell 2
  have f2 := hb.frozen 2
  simp at c0 c1 c2
  have cg := hG.c4
  have hlt := hb.lt
  have hg4 : 4 < g := by have := hG.low; omega
  have HB := Lib.hid hb
  simp only [Er] at he
  subst he
  clear hb hG
  go_enter Tryz.func137, Tryz.ntmps137
  go_wp2_with (go_at_call 201; refine (r_off b σ g _ _ HR.out).mono ?_; rintro e w' ⟨rfl, rfl⟩)
  go_region_with (go_at_call 68; refine (new_any σ 4 _ _ _ (by omega) (by omega)).mono ?_; rintro e w' ⟨g', rfl, rfl, rfl⟩)
  all_goals
    go_wp2
    go_ret
    exact ⟨rfl, (Rd.failed HB.out hbg hok 4 129 a (by omega) (by omega)).imp (fun h => h.drewN 1) (fun h => h.drew)⟩

set_option maxHeartbeats 1000000 in
theorem r_raw_short (b : Nat) (σ : Nat → Addr) (g : Nat) (s : ByteArray) (a : Nat) (n : Int) (w : World) (hG : Gl b σ w) (hR : Rd b σ w g ⟨s, a, none⟩) (hn : 0 ≤ n) (hn2 : (s.size : Int) - a < n) :
    Calls Tryz.prog 137 #[.pointer (some ⟨g, 0, none⟩), .int .i64 n] w fun e w' => e = .returned (.string noBytes) ∧ Rd b σ w' g ⟨s, a, some ⟨1, 129, s.size⟩⟩ ∧ Only g w w' := by
  have HR := Lib.hid hR
  obtain ⟨v, hb, he, hbg, hok⟩ := hR
  have c0 := hb.cell 0
  have c1 := hb.cell 1
  have c2 := hb.cell 2
  have f2 := hb.frozen 2
  simp at c0 c1 c2
  have cg := hG.c1
  have hlt := hb.lt
  have hg4 : 2 < g := by have := hG.low; omega
  have HB := Lib.hid hb
  have ha1 : (a : Int) ≤ s.size := by have := hok.1; simp only at this; omega
  have ha2 : (s.size : Int) ≤ 140737488351232 := by have := hok.2; simp only at this; omega
  simp only [Er] at he
  subst he
  clear hb hG
  go_enter Tryz.func137, Tryz.ntmps137
  go_wp2_with (go_at_call 201; refine (r_off b σ g _ _ HR.out).mono ?_; rintro e w' ⟨rfl, rfl⟩)
  go_quiet (fail)
  replace c0 := cell_drewN c0 nq
  replace c1 := cell_drewN c1 nq
  replace c2 := cell_drewN c2 nq
  replace f2 := frz_drewN f2 nq
  replace cg := cell_drewN cg nq
  replace hlt := lt_drewN hlt nq
  replace HB := blkH_drewN HB nq
  have HP := keepH_new w nq
  generalize w.drewN nq = w2 at *
  go_wp2
  go_region_with (go_at_call 68; refine (new_any σ 1 _ _ _ (by omega) (by omega)).mono ?_; rintro e w' ⟨g', rfl, rfl, rfl⟩)
  all_goals
    go_wp2
    go_ret
    exact ⟨rfl, (Rd.failed HB.out hbg hok 1 129 s.size (by omega) (by omega)).imp (fun h => h.drewN 1) (fun h => (Keep.of_pure HP.out).trans h.drew)⟩

set_option maxHeartbeats 1000000 in
theorem r_raw_ok (b : Nat) (σ : Nat → Addr) (g : Nat) (s : ByteArray) (a : Nat) (n : Int) (w : World) (hR : Rd b σ w g ⟨s, a, none⟩) (hn : 0 ≤ n) (hn2 : n ≤ (s.size : Int) - a) :
    Calls Tryz.prog 137 #[.pointer (some ⟨g, 0, none⟩), .int .i64 n] w fun e w' => e = .returned (.string (s.extract a (a + n.toNat))) ∧ Rd b σ w' g ⟨s, a + n.toNat, none⟩ ∧ Only g w w' := by
  have HR := Lib.hid hR
  obtain ⟨v, hb, he, hbg, hok⟩ := hR
  have c0 := hb.cell 0
  have c1 := hb.cell 1
  have c2 := hb.cell 2
  have f1 := hb.frozen 1
  simp at c0 c1 c2
  have hlt := hb.lt
  have HB := Lib.hid hb
  have ha1 : (a : Int) ≤ s.size := by have := hok.1; simp only at this; omega
  have ha2 : (s.size : Int) ≤ 140737488351232 := by have := hok.2; simp only at this; omega
  simp only [Er] at he
  subst he
  clear hb
  obtain ⟨m, rfl⟩ := Int.eq_ofNat_of_zero_le hn
  go_enter Tryz.func137, Tryz.ntmps137
  go_wp2_with (go_at_call 201; refine (r_off b σ g _ _ HR.out).mono ?_; rintro e w' ⟨rfl, rfl⟩)
  go_quiet (fail)
  replace c0 := cell_drewN c0 nq
  replace c1 := cell_drewN c1 nq
  replace c2 := cell_drewN c2 nq
  replace f1 := frz_drewN f1 nq
  replace hlt := lt_drewN hlt nq
  replace HB := blkH_drewN HB nq
  have HP := keepH_new w nq
  generalize w.drewN nq = w2 at *
  go_wp2
  have s1 : IntKind.i64.wrap ((a : Int) + (m : Int)) = (a : Int) + m := IntWalk.i64_in _ (by omega)
  have s2 : 0 ≤ (a : Int) + (m : Int) := by omega
  have s4 : (a : Int) + (m : Int) ≤ (s.size : Int) := by omega
  have s5 : (0 : Int) ≤ (m : Int) := by omega
  have s6 : a + m ≤ s.size := by omega
  have s7 : (a : Int) ≤ (a : Int) + (m : Int) := by omega
  have s3 : ((a : Int) + (m : Int)).toNat = a + m := by omega
  go_quiet (fail)
  clear s1 s2 s3 s4 s5 s6 s7
  replace c0 := cell_drewN c0 nq
  replace c1 := cell_drewN c1 nq
  replace c2 := cell_drewN c2 nq
  replace f1 := frz_drewN f1 nq
  replace hlt := lt_drewN hlt nq
  replace HB := blkH_drewN HB nq
  replace HP := keepH_drewN HP nq
  generalize w2.drewN nq = w3 at *
  go_wp2
  go_ret
  refine ⟨by simp, ⟨.nilIface, ?_, rfl, hbg, ?_⟩, (Keep.of_pure HP.out).trans ((Keep.refl (fun k => k = g) w3).setCell (.inl rfl) _)⟩
  · have h := HB.out.set_ 1 (.int .i64 ((a : Int) + m))
    simpa using h
  · exact ⟨by simp only; omega, hok.2⟩

/-- Reader.Raw. -/
theorem r_raw (b : Nat) (σ : Nat → Addr) (g : Nat) (st : RS) (n : Int) (w : World) (hG : Gl b σ w) (hR : Rd b σ w g st) :
    Calls Tryz.prog 137 #[.pointer (some ⟨g, 0, none⟩), .int .i64 n] w fun e w' => e = .returned (.string (st.raw n).1) ∧ Rd b σ w' g (st.raw n).2 ∧ Only g w w' := by
  obtain ⟨s, a, e⟩ := st
  cases e with
  | some f =>
    refine (r_raw_off b σ g s a f n w hR).mono ?_
    rintro e w' ⟨rfl, rfl⟩
    exact ⟨rfl, hR, Keep.refl _ _⟩
  | none =>
    by_cases h1 : n < 0
    · simp only [RS.raw, if_pos h1]
      exact r_raw_neg b σ g s a n w hG hR h1
    · by_cases h2 : (s.size : Int) - a < n
      · simp only [RS.raw, if_neg h1, if_pos h2]
        exact r_raw_short b σ g s a n w hG hR (by omega) h2
      · simp only [RS.raw, if_neg h1, if_neg h2]
        exact r_raw_ok b σ g s a n w hR (by omega) (by omega)
end Go.Proofs.YthokkjdolcfhcaaGreatDoor

set_option linter.unusedVariables false
namespace Go.Proofs.YthokkjdolcfhcaaGreatDoor
open Go.RowKit

theorem run_index_at {P : Program} (t : TypeId) (s : ByteArray) (kd : IntKind) (i : Int) (k : Nat) (hi : i = k) (h : k < s.size) (hu : P.underlying t = some .string) (w : World) :
    (Instr.index t (.string s) (.int kd i)).run P w = .ok (.int .u8 ((s.data.toList.getD k 0).toNat : Int)) w := by
  subst hi
  rw [run_index_string w t s kd k hu, dif_pos ⟨by omega, by omega⟩]
  simp [List.getD, h]
  rfl
theorem drop_at (s : ByteArray) (k : Nat) (h : k < s.size) : s.data.toList.drop k = s.data.toList.getD k 0 :: s.data.toList.drop (k + 1) := by
  rw [List.drop_eq_getElem_cons (by simpa using h)]
  simp [List.getD, h]
def VtPost (σ : Nat → Addr) (r : Except Flt (Nat × Nat)) (w : World) (e : Ending) (w' : World) : Prop :=
  match r with
  | .ok (n, k) => e = .returned (.tuple #[.int .i64 n, .int .i64 k, .nilIface]) ∧ Pure w w'
  | .error f => ∃ g, e = .returned (.tuple #[.int .i64 0, .int .i64 0, .iface 148 (.pointer (some ⟨g, 0, none⟩))]) ∧ f.ok ∧ ErC σ w' g f ∧ Pure w w'

set_option maxHeartbeats 1000000 in
set_option maxRecDepth 100000 in
theorem v_take (b : Nat) (σ : Nat → Addr) (s : ByteArray) (w : World) (hG : Gl b σ w) :
    Calls Tryz.prog 220 #[.string s] w (VtPost σ (vtake s) w) := by
  have c1 := hG.c1
  have c2 := hG.c2
  clear hG
  go_enter Tryz.func220, Tryz.ntmps220
  go_wp2_with fail
  go_loop [5, 8] (fun n i => ∃ (k m : Nat), k ≤ 4 ∧ k ≤ s.size ∧ m < 128 ^ k ∧ i = .int .i64 k ∧ n = .int .i64 m ∧ Hid (vtake s = vtk (s.data.toList.drop k) k m)) (fun _ i => 4 - (intOf i).toNat)
  case atStart => exact ⟨0, 0, by omega, by omega, by simp, rfl, rfl, by simp [vtake, Hid]⟩
  case round =>
    obtain ⟨k, m, hk4, hks, hm, rfl, rfl, HV⟩ := hrel
    by_cases hend : k = s.size
    · have HN : Hid (s.data.toList.drop k = []) := List.drop_eq_nil_of_le (by simp; omega)
      by_cases h4 : k = 4
      · have HR : Hid (vtake s = .error ⟨2, 129, 3⟩) := by rw [HV.out, HN.out]; unfold vtk; rw [if_pos (by omega)]; rfl
        clear hm hend hks hk4
        subst h4
        go_wp2_with (go_at_call 68; refine (new_any σ 2 _ _ _ (by omega) (by omega)).mono ?_; rintro e w' ⟨g', rfl, rfl, rfl⟩)
        go_ret3
        rw [HR.out]
        exact ⟨_, rfl, flt_ok (by omega) (by omega), .base _ _ _ _ (Blk.new _ _ _), (Keep.refl _ _).alloc _⟩
      · have HR : Hid (vtake s = .error ⟨1, 129, k⟩) := by rw [HV.out, HN.out]; unfold vtk; rw [if_neg (by omega)]; rfl
        have hlt4 : (k : Int) < 4 := by omega
        clear hm hks hk4 h4
        obtain rfl := hend
        go_wp2_with (go_at_call 68; refine (new_any σ 1 _ _ _ (by omega) (by omega)).mono ?_; rintro e w' ⟨g', rfl, rfl, rfl⟩)
        go_ret3
        rw [HR.out]
        exact ⟨_, rfl, flt_ok (by omega) (by omega), .base _ _ _ _ (Blk.new _ _ _), (Keep.refl _ _).alloc _⟩
    · have hlt : k < s.size := by omega
      have hk : k = 0 ∨ k = 1 ∨ k = 2 ∨ k = 3 ∨ k = 4 := by omega
      have HD := Lib.hid (drop_at s k hlt)
      have hx : (s.data.toList.getD k 0).toNat < 256 := UInt8.toNat_lt _
      have hend2 : ((k : Int) == (s.size : Int)) = false := by simp; omega
      clear hend hks
      have HX : Hid (∃ c : UInt8, c = s.data.toList.getD k 0 ∧ c.toNat = (s.data.toList.getD k 0).toNat) := ⟨_, rfl, rfl⟩
      have HIX : Hid (∀ i : Int, i = k → ∀ w : World, (Instr.index 9 (.string s) (.int .i64 i)).run Tryz.prog w = .ok (.int .u8 ((s.data.toList.getD k 0).toNat : Int)) w) := fun i hi => run_index_at (P := Tryz.prog) 9 s .i64 i k hi hlt Tryz.underlying9
      generalize (s.data.toList.getD k 0).toNat = x at *
      have hand := and_127 x hx
      have hy : x % 128 < 128 := Nat.mod_lt _ (by omega)
      have HO : Hid (∀ p : Nat, p = 128 ^ k → k ≤ 3 → bits .or .i64 (m : Int) (((x % 128 : Nat) : Int) * (p : Int)) = ((m + x % 128 * p : Nat) : Int)) := fun p hp h3 => or_digit m (x % 128) p k hp h3 (by omega) (by omega)
      have HY : Hid (x % 128 = x % 128) := rfl
      have HM := Lib.hid hm
      clear hm
      -- what the model's answer is, in the three cases
      have HA : Hid (128 ≤ x → k < 4 → vtake s = vtk (s.data.toList.drop (k + 1)) (k + 1) (m + x % 128 * 128 ^ k)) := fun h1 h2 => by
        obtain ⟨c, hc1, hc2⟩ := HX.out
        rw [HV.out, HD.out, ← hc1, vtk, if_neg (by omega), if_pos (by omega), hc2]
      have HB : Hid (x = 0 → 0 < k → k < 4 → vtake s = .error ⟨2, 129, k⟩) := fun h1 h2 h3 => by
        obtain ⟨c, hc1, hc2⟩ := HX.out
        rw [HV.out, HD.out, ← hc1, vtk, if_neg (by omega), if_neg (by omega), if_pos (by omega)]
      have HC : Hid (x < 128 → (x = 0 → k = 0) → k < 4 → vtake s = .ok (m + x % 128 * 128 ^ k, k + 1)) := fun h1 h2 h3 => by
        obtain ⟨c, hc1, hc2⟩ := HX.out
        rw [HV.out, HD.out, ← hc1, vtk, if_neg (by omega), if_neg (by omega), if_neg (by omega), hc2, Nat.mod_eq_of_lt h1]
      have HE : Hid (k = 4 → vtake s = .error ⟨2, 129, 3⟩) := fun h1 => by
        rw [HV.out, HD.out, vtk, if_pos (by omega)]
      clear HV HD HX HY
      generalize x % 128 = y at *
      rcases hk with rfl | rfl | rfl | rfl | rfl
      · have hix := HIX.out 0 rfl
        have ho : bits .or .i64 (m : Int) ((y : Int)) = ((m + y * 1 : Nat) : Int) := by
          have h := HO.out 1 (by decide) (by omega)
          rw [← h]
          simp
        have HO2 := Lib.hid ho
        clear ho hk4
        by_cases h1 : 128 ≤ x
        · go_wp2_with fail
          go_round
          case rel => exact ⟨1, m + y * 1, by omega, by omega, by have h := digit_lt HM.out hy; simpa using h, rfl, by rw [HO2.out], by have h := HA.out h1 (by omega); simpa [Hid] using h⟩
          case measure => simp [intOf]
        · have hlt1 : x < 128 := by omega
          clear h1
          have HR := Lib.hid (HC.out hlt1 (fun _ => rfl) (by omega))
          go_wp2_with fail
          all_goals
            go_ret3
            rw [HR.out]
            exact ⟨by rw [HO2.out]; simp, Keep.refl _ _⟩
      · have hix := HIX.out 1 rfl
        have ho : bits .or .i64 (m : Int) ((y : Int) * 128) = ((m + y * 128 : Nat) : Int) := by
          have h := HO.out 128 (by decide) (by omega)
          rw [← h]
          rfl
        have HO2 := Lib.hid ho
        clear ho hk4
        by_cases h1 : 128 ≤ x
        · go_wp2_with fail
          go_round
          case rel => exact ⟨2, m + y * 128, by omega, by omega, by have h := digit_lt HM.out hy; simpa using h, rfl, by rw [HO2.out], by have h := HA.out h1 (by omega); simpa [Hid] using h⟩
          case measure => simp [intOf]
        · have hlt1 : x < 128 := by omega
          clear h1
          by_cases h2 : x = 0
          · have HR := Lib.hid (HB.out h2 (by omega) (by omega))
            have h3 : ((x : Int) == 0) = true := by simp [h2]
            clear h2
            go_wp2_with (go_at_call 68; refine (new_any σ 2 _ _ _ (by omega) (by omega)).mono ?_; rintro e w' ⟨g', rfl, rfl, rfl⟩)
            go_ret3
            rw [HR.out]
            exact ⟨_, rfl, flt_ok (by omega) (by omega), .base _ _ _ _ (Blk.new _ _ _), (Keep.refl _ _).alloc _⟩
          · have HR := Lib.hid (HC.out hlt1 (fun h => absurd h h2) (by omega))
            have h3 : ((x : Int) == 0) = false := by simp [h2]
            clear h2
            go_wp2_with fail
            go_ret3
            rw [HR.out]
            exact ⟨by rw [HO2.out]; simp, Keep.refl _ _⟩
      · have hix := HIX.out 2 rfl
        have ho : bits .or .i64 (m : Int) ((y : Int) * 16384) = ((m + y * 16384 : Nat) : Int) := by
          have h := HO.out 16384 (by decide) (by omega)
          rw [← h]
          rfl
        have HO2 := Lib.hid ho
        clear ho hk4
        by_cases h1 : 128 ≤ x
        · go_wp2_with fail
          go_round
          case rel => exact ⟨3, m + y * 16384, by omega, by omega, by have h := digit_lt HM.out hy; simpa using h, rfl, by rw [HO2.out], by have h := HA.out h1 (by omega); simpa [Hid] using h⟩
          case measure => simp [intOf]
        · have hlt1 : x < 128 := by omega
          clear h1
          by_cases h2 : x = 0
          · have HR := Lib.hid (HB.out h2 (by omega) (by omega))
            have h3 : ((x : Int) == 0) = true := by simp [h2]
            clear h2
            go_wp2_with (go_at_call 68; refine (new_any σ 2 _ _ _ (by omega) (by omega)).mono ?_; rintro e w' ⟨g', rfl, rfl, rfl⟩)
            go_ret3
            rw [HR.out]
            exact ⟨_, rfl, flt_ok (by omega) (by omega), .base _ _ _ _ (Blk.new _ _ _), (Keep.refl _ _).alloc _⟩
          · have HR := Lib.hid (HC.out hlt1 (fun h => absurd h h2) (by omega))
            have h3 : ((x : Int) == 0) = false := by simp [h2]
            clear h2
            go_wp2_with fail
            go_ret3
            rw [HR.out]
            exact ⟨by rw [HO2.out]; simp, Keep.refl _ _⟩
      · have hix := HIX.out 3 rfl
        have ho : bits .or .i64 (m : Int) ((y : Int) * 2097152) = ((m + y * 2097152 : Nat) : Int) := by
          have h := HO.out 2097152 (by decide) (by omega)
          rw [← h]
          rfl
        have HO2 := Lib.hid ho
        clear ho hk4
        by_cases h1 : 128 ≤ x
        · go_wp2_with fail
          go_round
          case rel => exact ⟨4, m + y * 2097152, by omega, by omega, by have h := digit_lt HM.out hy; simpa using h, rfl, by rw [HO2.out], by have h := HA.out h1 (by omega); simpa [Hid] using h⟩
          case measure => simp [intOf]
        · have hlt1 : x < 128 := by omega
          clear h1
          by_cases h2 : x = 0
          · have HR := Lib.hid (HB.out h2 (by omega) (by omega))
            have h3 : ((x : Int) == 0) = true := by simp [h2]
            clear h2
            go_wp2_with (go_at_call 68; refine (new_any σ 2 _ _ _ (by omega) (by omega)).mono ?_; rintro e w' ⟨g', rfl, rfl, rfl⟩)
            go_ret3
            rw [HR.out]
            exact ⟨_, rfl, flt_ok (by omega) (by omega), .base _ _ _ _ (Blk.new _ _ _), (Keep.refl _ _).alloc _⟩
          · have HR := Lib.hid (HC.out hlt1 (fun h => absurd h h2) (by omega))
            have h3 : ((x : Int) == 0) = false := by simp [h2]
            clear h2
            go_wp2_with fail
            go_ret3
            rw [HR.out]
            exact ⟨by rw [HO2.out]; simp, Keep.refl _ _⟩
      · have HR := Lib.hid (HE.out rfl)
        clear hk4
        go_wp2_with (go_at_call 68; refine (new_any σ 2 _ _ _ (by omega) (by omega)).mono ?_; rintro e w' ⟨g', rfl, rfl, rfl⟩)
        go_ret3
        rw [HR.out]
        exact ⟨_, rfl, flt_ok (by omega) (by omega), .base _ _ _ _ (Blk.new _ _ _), (Keep.refl _ _).alloc _⟩
end Go.Proofs.YthokkjdolcfhcaaGreatDoor

set_option linter.unusedVariables false
namespace Go.Proofs.YthokkjdolcfhcaaGreatDoor
open Go.RowKit

theorem r_at (b : Nat) (σ : Nat → Addr) (g : Nat) (st : RS) (w : World) (hR : Rd b σ w g st) :
    Calls Tryz.prog 136 #[.pointer (some ⟨g, 0, none⟩)] w fun e w' => e = .returned (.int .i64 st.at_) ∧ w = w' := by
  obtain ⟨v, hb, he, hbg, hok⟩ := hR
  have c1 := hb.cell 1
  simp at c1
  clear hb he
  go_enter Tryz.func136, Tryz.ntmps136
  go_wp2
  go_ret
  exact ⟨rfl, rfl⟩

theorem r_left (b : Nat) (σ : Nat → Addr) (g : Nat) (st : RS) (w : World) (hR : Rd b σ w g st) :
    Calls Tryz.prog 140 #[.pointer (some ⟨g, 0, none⟩)] w fun e w' => e = .returned (.int .i64 st.left) ∧ Pure w w' := by
  obtain ⟨v, hb, he, hbg, hok⟩ := hR
  obtain ⟨s, a, er⟩ := st
  have c0 := hb.cell 0
  have c1 := hb.cell 1
  simp at c0 c1
  have ha1 : (a : Int) ≤ s.size := by have := hok.1; simp only at this; omega
  have ha2 : (s.size : Int) ≤ 140737488351232 := by have := hok.2; simp only at this; omega
  clear hb he
  go_enter Tryz.func140, Tryz.ntmps140
  go_wp2
  go_quiet (fail)
  have HP := keepH_new w nq
  generalize w.drewN nq = w2 at *
  go_wp2
  go_ret
  exact ⟨ret_int (by simp only [RS.left]; omega), HP.out⟩

theorem r_err (b : Nat) (σ : Nat → Addr) (g : Nat) (st : RS) (w : World) (hR : Rd b σ w g st) :
    Calls Tryz.prog 86 #[.pointer (some ⟨g, 0, none⟩)] w fun e w' => ∃ v, e = .returned v ∧ Er σ w v st.e ∧ w = w' := by
  obtain ⟨v, hb, he, hbg, hok⟩ := hR
  have c2 := hb.cell 2
  simp at c2
  have HE := Lib.hid he
  clear hb he
  go_enter Tryz.func86, Tryz.ntmps86
  go_wp2
  go_ret
  exact ⟨_, rfl, HE.out, rfl⟩

theorem r_back (b : Nat) (σ : Nat → Addr) (g : Nat) (st : RS) (a : Nat) (w : World) (hR : Rd b σ w g st) (ha : a ≤ st.s.size) :
    Calls Tryz.prog 139 #[.pointer (some ⟨g, 0, none⟩), .int .i64 a] w fun e w' => e = .returned (.tuple #[]) ∧ Rd b σ w' g (st.back a) ∧ Only g w w' := by
  have HR := Lib.hid hR
  obtain ⟨v, hb, he, hbg, hok⟩ := hR
  obtain ⟨s, a0, er⟩ := st
  have c1 := hb.cell 1
  have c2 := hb.cell 2
  have f1 := hb.frozen 1
  simp at c1 c2
  have HB := Lib.hid hb
  have HE := Lib.hid he
  clear hb
  cases er with
  | none =>
    simp only [Er] at he
    subst he
    go_enter Tryz.func139, Tryz.ntmps139
    go_wp2
    go_end0
    exact ⟨rfl, HR.out, Keep.refl _ _⟩
  | some f =>
    obtain ⟨_, g', rfl, _⟩ := he
    go_enter Tryz.func139, Tryz.ntmps139
    go_wp2
    go_end0
    refine ⟨rfl, ⟨.iface 148 (.pointer (some ⟨g', 0, none⟩)), ?_, ?_, hbg, RS.back_ok hok a ha⟩, (Keep.refl (fun k => k = g) w).setCell (.inl rfl) _⟩
    · have h := HB.out.set_ 1 (.int .i64 (a : Int))
      simpa [RS.back] using h
    · exact HE.out.only ((Keep.refl (fun k => k = g) w).setCell (.inl rfl) _) HB.out (by decide)

theorem Rd.pure {b : Nat} {σ : Nat → Addr} {w w' : World} {g : Nat} {st : RS} (h : Rd b σ w g st) (k : Pure w w') : Rd b σ w' g st := by
  obtain ⟨v, hb, he, h1, h2⟩ := h
  exact ⟨v, k.blk hb (fun hf => hf), he.pure k, h1, h2⟩
theorem bytes_pure (w : World) (e : TypeId) (s : ByteArray) : Pure w (Lib.bytesWorld w e s) :=
  ⟨rfl, rfl, rfl, by rw [Lib.bytesWorld_size]; omega, fun k hk _ => Lib.bytesWorld_at_old w e s k hk⟩
theorem be_snoc (l : List UInt8) (c : UInt8) : be (l ++ [c]) = be l * 256 + c.toNat := by simp [be]
theorem be_fold (l : List UInt8) : ∀ n : Nat, l.foldl (fun n c => n * 256 + c.toNat) n < (n + 1) * 256 ^ l.length := by
  induction l with
  | nil => intro n; simp
  | cons c l ih =>
    intro n
    have h := ih (n * 256 + c.toNat)
    have hc := c.toNat_lt
    have h2 : (n * 256 + c.toNat + 1) * 256 ^ l.length ≤ (n + 1) * 256 * 256 ^ l.length := Nat.mul_le_mul_right _ (by omega)
    simp only [List.foldl_cons, List.length_cons]
    rw [Nat.pow_succ', ← Nat.mul_assoc]
    omega
theorem be_lt (l : List UInt8) : be l < 256 ^ l.length := by have := be_fold l 0; simpa [be] using this
theorem RS.raw_size (st : RS) (n : Nat) : (st.raw n).1.size ≤ n := by
  unfold RS.raw
  cases st.e with
  | some f => simp [noBytes, ByteArray.size]
  | none =>
    simp only
    (repeat' split)
    · simp [noBytes, ByteArray.size]
    · simp [noBytes, ByteArray.size]
    · simp; omega

set_option maxRecDepth 100000 in
theorem r_number (b : Nat) (σ : Nat → Addr) (g : Nat) (st : RS) (many : Nat) (w : World) (hG : Gl b σ w) (hR : Rd b σ w g st) (hm : many ≤ 4) :
    Calls Tryz.prog 135 #[.pointer (some ⟨g, 0, none⟩), .int .i64 many] w fun e w' => e = .returned (.int .i64 (st.num many).1) ∧ Rd b σ w' g (st.num many).2 ∧ Only g w w' := by
  have HG := Lib.hid hG
  have HR := Lib.hid hR
  clear hG hR
  go_enter Tryz.func135, Tryz.ntmps135
  go_wp2_with fail
  refine (r_raw b σ g st _ w HG.out HR.out).mono ?_
  rintro e w1 ⟨rfl, h1, h2⟩
  have HR1 := Lib.hid h1
  have HP := Lib.hid h2
  clear h1 h2
  have hs : (st.raw many).1.size ≤ 4 := Nat.le_trans (RS.raw_size st many) hm
  have HF : Hid ((st.num many).1 = be (st.raw many).1.data.toList) := rfl
  generalize (st.raw many).1 = s at *
  have hcv := Lib.run_convert_string_bytes (P := Tryz.prog) w1 9 99 5 s (u := .string) Tryz.underlying9 Tryz.underlying99 Tryz.underlying5
  go_wp2_with fail
  have HB := Lib.hid (bytes_pure w1 5 s)
  have HCC := Lib.hid (fun j hj => Lib.bytesWorld_cell w1 5 s j hj)
  generalize w1.heap.size = g1 at *
  generalize Lib.bytesWorld w1 5 s = w2 at *
  generalize grownCap _ _ _ _ = cp at *
  go_loop [5, 13] (fun n i => ∃ k : Nat, k ≤ s.size ∧ i = .int .i64 k ∧ n = .int .i64 (be (s.data.toList.take k) : Nat)) (fun _ i => s.size - (intOf i).toNat)
  case atStart => exact ⟨0, Nat.zero_le _, rfl, by simp [be]⟩
  case round =>
    obtain ⟨k, hk, rfl, rfl⟩ := hrel
    have hl := be_lt (s.data.toList.take k)
    have hl2 : be (s.data.toList.take k) < 4294967296 := by
      have h1 : (s.data.toList.take k).length ≤ 4 := by simp; omega
      have h2 : 256 ^ (s.data.toList.take k).length ≤ 256 ^ 4 := Nat.pow_le_pow_right (by omega) h1
      omega
    clear hl
    by_cases hlt : k < s.size
    · have hc := HCC.out k hlt
      have hx : (s.data.toList.getD k 0).toNat < 256 := UInt8.toNat_lt _
      have HS : Hid (be (s.data.toList.take (k + 1)) = be (s.data.toList.take k) * 256 + (s.data.toList.getD k 0).toNat) := by
        rw [← be_snoc]
        congr 1
        rw [List.take_succ_eq_append_getElem (by simpa using hlt)]
        simp [List.getD, hlt]
      generalize (s.data.toList.getD k 0).toNat = x at *
      have hb := or_byte (be (s.data.toList.take k)) x hl2 hx
      have HO := Lib.hid hb
      clear hb
      generalize be (s.data.toList.take k) = n at *
      go_wp2
      go_round
      case rel => exact ⟨k + 1, by omega, by go_num, by rw [HO.out, HS.out]⟩
      case measure => simp [intOf]; omega
    · obtain rfl : k = s.size := by omega
      clear hlt
      go_wp2
      go_ret
      refine ⟨?_, ?_, HP.out.seq HB.out fun _ hf => hf.elim⟩
      · rw [HF.out]
        exact ret_int (by rw [List.take_of_length_le (by simp)])
      · exact HR1.out.pure HB.out
end Go.Proofs.YthokkjdolcfhcaaGreatDoor

set_option linter.unusedVariables false
namespace Go.Proofs.YthokkjdolcfhcaaGreatDoor
open Go.RowKit


theorem r_number' (b : Nat) (σ : Nat → Addr) (g : Nat) (st : RS) (many : Nat) (m : Int) (he : m = (many : Int)) (w : World) (hG : Gl b σ w) (hR : Rd b σ w g st) (hm : many ≤ 4) :
    Calls Tryz.prog 135 #[.pointer (some ⟨g, 0, none⟩), .int .i64 m] w fun e w' => e = .returned (.int .i64 (st.num many).1) ∧ Rd b σ w' g (st.num many).2 ∧ Only g w w' := by
  subst he
  exact r_number b σ g st many w hG hR hm

theorem r_u8 (b : Nat) (σ : Nat → Addr) (g : Nat) (st : RS) (w : World) (hG : Gl b σ w) (hR : Rd b σ w g st) :
    Calls Tryz.prog 62 #[.pointer (some ⟨g, 0, none⟩)] w fun e w' => e = .returned (.int .i64 (st.num 1).1) ∧ Rd b σ w' g (st.num 1).2 ∧ Only g w w' := by
  have HC := Lib.hid (r_number' b σ g st 1 1 rfl w hG hR (by omega))
  clear hG hR
  go_enter Tryz.func62, Tryz.ntmps62
  go_wp2_with fail
  refine HC.out.mono ?_
  rintro e w1 ⟨rfl, h1, h2⟩
  have HR1 := Lib.hid h1
  have HP := Lib.hid h2
  clear h1 h2
  go_wp2
  go_ret
  exact ⟨rfl, HR1.out, HP.out⟩
theorem r_u16 (b : Nat) (σ : Nat → Addr) (g : Nat) (st : RS) (w : World) (hG : Gl b σ w) (hR : Rd b σ w g st) :
    Calls Tryz.prog 138 #[.pointer (some ⟨g, 0, none⟩)] w fun e w' => e = .returned (.int .i64 (st.num 2).1) ∧ Rd b σ w' g (st.num 2).2 ∧ Only g w w' := by
  have HC := Lib.hid (r_number' b σ g st 2 2 rfl w hG hR (by omega))
  clear hG hR
  go_enter Tryz.func138, Tryz.ntmps138
  go_wp2_with fail
  refine HC.out.mono ?_
  rintro e w1 ⟨rfl, h1, h2⟩
  have HR1 := Lib.hid h1
  have HP := Lib.hid h2
  clear h1 h2
  go_wp2
  go_ret
  exact ⟨rfl, HR1.out, HP.out⟩
theorem r_u32 (b : Nat) (σ : Nat → Addr) (g : Nat) (st : RS) (w : World) (hG : Gl b σ w) (hR : Rd b σ w g st) :
    Calls Tryz.prog 64 #[.pointer (some ⟨g, 0, none⟩)] w fun e w' => e = .returned (.int .i64 (st.num 4).1) ∧ Rd b σ w' g (st.num 4).2 ∧ Only g w w' := by
  have HC := Lib.hid (r_number' b σ g st 4 4 rfl w hG hR (by omega))
  clear hG hR
  go_enter Tryz.func64, Tryz.ntmps64
  go_wp2_with fail
  refine HC.out.mono ?_
  rintro e w1 ⟨rfl, h1, h2⟩
  have HR1 := Lib.hid h1
  have HP := Lib.hid h2
  clear h1 h2
  go_wp2
  go_ret
  exact ⟨rfl, HR1.out, HP.out⟩

theorem Gl.only {b : Nat} {σ : Nat → Addr} {w w' : World} {g : Nat} {st : RS} (h : Gl b σ w) (k : Only g w w') (hR : Rd b σ w' g st) : Gl b σ w' :=
  h.keep k fun i hi => by
    obtain ⟨v, _, _, hbg, _⟩ := hR
    rw [hi]
    exact hbg

theorem r_bin (b : Nat) (σ : Nat → Addr) (g : Nat) (st : RS) (w : World) (hG : Gl b σ w) (hR : Rd b σ w g st) :
    Calls Tryz.prog 63 #[.pointer (some ⟨g, 0, none⟩)] w fun e w' => e = .returned (.string st.bin.1) ∧ Rd b σ w' g st.bin.2 ∧ Only g w w' := by
  have HG := Lib.hid hG
  have HR := Lib.hid hR
  have HA : Hid (st.at_ ≤ ((st.num 2).2.raw (st.num 2).1).2.s.size) := by
    rw [RS.raw_s, RS.num_s]
    obtain ⟨_, _, _, _, h⟩ := hR
    exact h.1
  clear hG hR
  go_enter Tryz.func63, Tryz.ntmps63
  go_wp2_with fail
  refine (r_at b σ g st w HR.out).mono ?_; rintro e w' ⟨rfl, rfl⟩
  go_wp2_with fail
  refine (r_u16 b σ g st w HG.out HR.out).mono ?_; rintro e w1 ⟨rfl, h1, h2⟩
  have HR1 := Lib.hid h1
  have HP1 := Lib.hid h2
  have HG1 := Lib.hid (HG.out.only h2 h1)
  clear h1 h2
  go_wp2_with fail
  refine (r_raw b σ g _ _ w1 HG1.out HR1.out).mono ?_; rintro e w2 ⟨rfl, h1, h2⟩
  have HR2 := Lib.hid h1
  have HP2 := Lib.hid (HP1.out.trans h2)
  clear h1 h2
  go_wp2_with fail
  refine (r_back b σ g _ _ w2 HR2.out HA.out).mono ?_; rintro e w3 ⟨rfl, h1, h2⟩
  have HR3 := Lib.hid h1
  have HP3 := Lib.hid (HP2.out.trans h2)
  clear h1 h2
  go_wp2
  go_ret
  exact ⟨rfl, HR3.out, HP3.out⟩

theorem r_rest (b : Nat) (σ : Nat → Addr) (g : Nat) (st : RS) (w : World) (hG : Gl b σ w) (hR : Rd b σ w g st) :
    Calls Tryz.prog 227 #[.pointer (some ⟨g, 0, none⟩)] w fun e w' => e = .returned (.string st.rest.1) ∧ Rd b σ w' g st.rest.2 ∧ Only g w w' := by
  have HG := Lib.hid hG
  have HR := Lib.hid hR
  clear hG hR
  go_enter Tryz.func227, Tryz.ntmps227
  go_wp2_with fail
  refine (r_left b σ g st w HR.out).mono ?_; rintro e w1 ⟨rfl, h1⟩
  have HR1 := Lib.hid (HR.out.pure h1)
  have HG1 := Lib.hid (HG.out.pure h1)
  have HP1 := Lib.hid h1
  clear h1
  go_wp2_with fail
  refine (r_raw b σ g _ _ w1 HG1.out HR1.out).mono ?_; rintro e w2 ⟨rfl, h1, h2⟩
  have HR2 := Lib.hid h1
  have HP2 := Lib.hid ((Keep.of_pure HP1.out).trans h2)
  clear h1 h2
  go_wp2
  go_ret
  exact ⟨rfl, HR2.out, HP2.out⟩

theorem r_done (b : Nat) (σ : Nat → Addr) (g : Nat) (st : RS) (w : World) (hG : Gl b σ w) (hR : Rd b σ w g st) :
    Calls Tryz.prog 66 #[.pointer (some ⟨g, 0, none⟩)] w fun e w' => ∃ v, e = .returned v ∧ Er σ w' v st.done ∧ Pure w w' := by
  have HG := Lib.hid hG
  have HR := Lib.hid hR
  obtain ⟨s, a, er⟩ := st
  clear hG hR
  cases er with
  | some f =>
    go_enter Tryz.func66, Tryz.ntmps66
    go_wp2_with fail
    refine (r_err b σ g _ w HR.out).mono ?_
    rintro e w' ⟨v, rfl, hE, rfl⟩
    have HE := Lib.hid hE
    obtain ⟨_, g', x, rfl, _⟩ := hE.some_
    clear hE
    go_wp2_with fail
    refine (r_err b σ g _ w HR.out).mono ?_
    rintro e w' ⟨v, rfl, hE, rfl⟩
    have HE2 := Lib.hid hE
    clear hE
    go_wp2
    go_ret
    exact ⟨_, rfl, HE2.out, Keep.refl _ _⟩
  | none =>
    by_cases hlt : a < s.size
    · have hd : (⟨s, a, none⟩ : RS).done = some ⟨2, 129, a⟩ := by simp [RS.done, hlt]
      have HD := Lib.hid hd
      clear hd
      have HL : Hid (∃ m : Nat, ((⟨s, a, none⟩ : RS).left : Int) = ((m + 1 : Nat) : Int)) := ⟨s.size - a - 1, by show ((s.size - a : Nat) : Int) = _; omega⟩
      clear hlt
      go_enter Tryz.func66, Tryz.ntmps66
      go_wp2_with fail
      refine (r_err b σ g _ w HR.out).mono ?_
      rintro e w' ⟨v, rfl, hE, rfl⟩
      simp only [Er] at hE
      subst hE
      go_wp2_with fail
      refine (r_left b σ g _ w HR.out).mono ?_; rintro e w1 ⟨rfl, h1⟩
      have HR1 := Lib.hid (HR.out.pure h1)
      have HG1 := Lib.hid (HG.out.pure h1)
      have HP1 := Lib.hid h1
      clear h1
      obtain ⟨m, hm⟩ := HL.out
      rw [hm]
      clear hm
      have cg := HG1.out.c2
      obtain ⟨v, hb, he, hbg, hok⟩ := HR1.out
      have c1 := hb.cell 1
      simp at c1
      clear hb he
      go_wp2_with fail
      go_region_with (go_at_call 68; refine (new_any σ 2 _ _ _ (by omega) (by omega)).mono ?_; rintro e w' ⟨g', rfl, rfl, rfl⟩)
      all_goals
        go_wp2
        go_ret
        refine ⟨_, rfl, ?_, ((HP1.out).alloc _).drew⟩
        rw [HD.out]
        exact ⟨flt_ok (by omega) (by omega), _, rfl, .base _ _ _ _ (Blk.new _ _ _)⟩
    · have hd : (⟨s, a, none⟩ : RS).done = none := by simp [RS.done, hlt]
      have HD := Lib.hid hd
      have HL : Hid ((⟨s, a, none⟩ : RS).left = 0) := by show s.size - a = 0; omega
      clear hd hlt
      go_enter Tryz.func66, Tryz.ntmps66
      go_wp2_with fail
      refine (r_err b σ g _ w HR.out).mono ?_
      rintro e w' ⟨v, rfl, hE, rfl⟩
      simp only [Er] at hE
      subst hE
      go_wp2_with fail
      refine (r_left b σ g _ w HR.out).mono ?_; rintro e w1 ⟨rfl, h1⟩
      have HR1 := Lib.hid (HR.out.pure h1)
      have HP1 := Lib.hid h1
      clear h1
      rw [HL.out]
      go_wp2_with fail
      refine (r_err b σ g _ w1 HR1.out).mono ?_
      rintro e w' ⟨v, rfl, hE, rfl⟩
      have HE2 := Lib.hid hE
      clear hE
      go_wp2
      go_ret
      exact ⟨_, rfl, by rw [HD.out]; exact HE2.out, HP1.out⟩
end Go.Proofs.YthokkjdolcfhcaaGreatDoor

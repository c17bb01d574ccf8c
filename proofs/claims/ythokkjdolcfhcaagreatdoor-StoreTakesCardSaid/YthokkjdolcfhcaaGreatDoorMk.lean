/- The reference's properties: types, places, numbers. The reference's properties: places. The reference's reader: Do. The reference's properties: ground. The reference's properties: what a property has, read. -/
import Derived.Test.YthokkjdolcfhcaaGreatDoorMj
import Derived.Test.YthokkjdolcfhcaaGreatDoorMe
import Derived.Test.YthokkjdolcfhcaaGreatDoorMf

set_option linter.unusedVariables false
namespace Go.Proofs.YthokkjdolcfhcaaGreatDoor
open Go.RowKit

set_option maxRecDepth 100000 in
set_option maxHeartbeats 2000000 in
theorem q_type (id : Int) (w : World) :
    Calls Tryz.prog 156 #[.int .i64 id] w fun e w' => e = .returned (.int .i64 (pType id)) ∧ w = w' := by
  go_enter Tryz.func156, Tryz.ntmps156
  go_wp2
  all_goals
    go_ret
    exact ⟨ret_int (by simp_all [pType]), rfl⟩

set_option maxRecDepth 100000 in
set_option maxHeartbeats 4000000 in
theorem q_numbered (p : Pr) (w : World) :
    Calls Tryz.prog 147 #[.agg #[.int .i64 p.id, .int .i64 p.n, .string p.s, .string p.v]] w fun e w' => e = .returned (.bool (pNumbered p.id p.n)) ∧ Pure w w' := by
  obtain ⟨id, n, s, v⟩ := p
  go_enter Tryz.func147, Tryz.ntmps147
  go_wp2_with fail
  all_goals
    go_ret
    refine ⟨congrArg (fun b => Ending.returned (Value.bool b)) ?_, by first | exact Keep.refl _ _ | exact (Keep.refl _ _).alloc _⟩
    rw [Bool.eq_iff_iff]
    (first | (simp_all [pNumbered]; done) | (simp_all [pNumbered]; omega))

end Go.Proofs.YthokkjdolcfhcaaGreatDoor

set_option linter.unusedVariables false
namespace Go.Proofs.YthokkjdolcfhcaaGreatDoor
open Go.RowKit

/-- a list of places as it is answered -/
def PlPost (l : List Int) (w : World) (e : Ending) (w' : World) : Prop := ∃ A c, e = .returned (.slice A l.length c) ∧ Reads w' w'.heap.size 1 A l.length (ints l) ∧ Pure w w'
theorem pl_lit (w : World) (l : List Int) (hl : l.length ≤ 20) : PlPost l w (.returned (.slice (some ⟨w.heap.size, 0, none⟩) l.length l.length)) (w.alloc (.cells (ints l).toArray 3)) := by
  refine ⟨_, _, rfl, ⟨by simp [ints], fun hn => ⟨_, rfl, by simp, fun j u hu => ?_⟩⟩, (Keep.refl _ _).alloc _⟩
  have h := (Blk.new w 3 (ints l).toArray).cell j
  rw [Addr.add_lit]
  simp only [Nat.zero_add]
  rw [h]
  simpa using hu
theorem pl_eq {l l' : List Int} {w w' : World} {e : Ending} (h : l = l') (hp : PlPost l' w e w') : PlPost l w e w' := by rw [h]; exact hp
theorem pl_nil (w : World) : PlPost [] w (.returned (.slice none 0 0)) w := ⟨_, _, rfl, Reads.none_, Keep.refl _ _⟩

-- PLACES
set_option maxRecDepth 100000 in
set_option maxHeartbeats 1000000 in
theorem q_places_1 (w : World) : Calls Tryz.prog 235 #[.int .i64 1] w (PlPost (pPlaces 1) w) := by
  go_enter Tryz.func235, Tryz.ntmps235
  go_wp2_with fail
  go_ret
  refine pl_eq ?_ (pl_lit w [3, 16] (by decide))
  simp [pPlaces]
set_option maxRecDepth 100000 in
set_option maxHeartbeats 1000000 in
theorem q_places_2 (w : World) : Calls Tryz.prog 235 #[.int .i64 2] w (PlPost (pPlaces 2) w) := by
  go_enter Tryz.func235, Tryz.ntmps235
  go_wp2_with fail
  go_ret
  refine pl_eq ?_ (pl_lit w [3, 16] (by decide))
  simp [pPlaces]
set_option maxRecDepth 100000 in
set_option maxHeartbeats 1000000 in
theorem q_places_3 (w : World) : Calls Tryz.prog 235 #[.int .i64 3] w (PlPost (pPlaces 3) w) := by
  go_enter Tryz.func235, Tryz.ntmps235
  go_wp2_with fail
  go_ret
  refine pl_eq ?_ (pl_lit w [3, 16] (by decide))
  simp [pPlaces]
set_option maxRecDepth 100000 in
set_option maxHeartbeats 1000000 in
theorem q_places_8 (w : World) : Calls Tryz.prog 235 #[.int .i64 8] w (PlPost (pPlaces 8) w) := by
  go_enter Tryz.func235, Tryz.ntmps235
  go_wp2_with fail
  go_ret
  refine pl_eq ?_ (pl_lit w [3, 16] (by decide))
  simp [pPlaces]
set_option maxRecDepth 100000 in
set_option maxHeartbeats 1000000 in
theorem q_places_9 (w : World) : Calls Tryz.prog 235 #[.int .i64 9] w (PlPost (pPlaces 9) w) := by
  go_enter Tryz.func235, Tryz.ntmps235
  go_wp2_with fail
  go_ret
  refine pl_eq ?_ (pl_lit w [3, 16] (by decide))
  simp [pPlaces]
set_option maxRecDepth 100000 in
set_option maxHeartbeats 1000000 in
theorem q_places_11 (w : World) : Calls Tryz.prog 235 #[.int .i64 11] w (PlPost (pPlaces 11) w) := by
  go_enter Tryz.func235, Tryz.ntmps235
  go_wp2_with fail
  go_ret
  refine pl_eq ?_ (pl_lit w [3, 8] (by decide))
  simp [pPlaces]
set_option maxRecDepth 100000 in
set_option maxHeartbeats 1000000 in
theorem q_places_17 (w : World) : Calls Tryz.prog 235 #[.int .i64 17] w (PlPost (pPlaces 17) w) := by
  go_enter Tryz.func235, Tryz.ntmps235
  go_wp2_with fail
  go_ret
  refine pl_eq ?_ (pl_lit w [1, 2, 14] (by decide))
  simp [pPlaces]
set_option maxRecDepth 100000 in
set_option maxHeartbeats 1000000 in
theorem q_places_18 (w : World) : Calls Tryz.prog 235 #[.int .i64 18] w (PlPost (pPlaces 18) w) := by
  go_enter Tryz.func235, Tryz.ntmps235
  go_wp2_with fail
  go_ret
  refine pl_eq ?_ (pl_lit w [2] (by decide))
  simp [pPlaces]
set_option maxRecDepth 100000 in
set_option maxHeartbeats 1000000 in
theorem q_places_19 (w : World) : Calls Tryz.prog 235 #[.int .i64 19] w (PlPost (pPlaces 19) w) := by
  go_enter Tryz.func235, Tryz.ntmps235
  go_wp2_with fail
  go_ret
  refine pl_eq ?_ (pl_lit w [2] (by decide))
  simp [pPlaces]
set_option maxRecDepth 100000 in
set_option maxHeartbeats 1000000 in
theorem q_places_21 (w : World) : Calls Tryz.prog 235 #[.int .i64 21] w (PlPost (pPlaces 21) w) := by
  go_enter Tryz.func235, Tryz.ntmps235
  go_wp2_with fail
  go_ret
  refine pl_eq ?_ (pl_lit w [1, 2, 15] (by decide))
  simp [pPlaces]
set_option maxRecDepth 100000 in
set_option maxHeartbeats 1000000 in
theorem q_places_22 (w : World) : Calls Tryz.prog 235 #[.int .i64 22] w (PlPost (pPlaces 22) w) := by
  go_enter Tryz.func235, Tryz.ntmps235
  go_wp2_with fail
  go_ret
  refine pl_eq ?_ (pl_lit w [1, 2, 15] (by decide))
  simp [pPlaces]
set_option maxRecDepth 100000 in
set_option maxHeartbeats 1000000 in
theorem q_places_23 (w : World) : Calls Tryz.prog 235 #[.int .i64 23] w (PlPost (pPlaces 23) w) := by
  go_enter Tryz.func235, Tryz.ntmps235
  go_wp2_with fail
  go_ret
  refine pl_eq ?_ (pl_lit w [1] (by decide))
  simp [pPlaces]
set_option maxRecDepth 100000 in
set_option maxHeartbeats 1000000 in
theorem q_places_24 (w : World) : Calls Tryz.prog 235 #[.int .i64 24] w (PlPost (pPlaces 24) w) := by
  go_enter Tryz.func235, Tryz.ntmps235
  go_wp2_with fail
  go_ret
  refine pl_eq ?_ (pl_lit w [16] (by decide))
  simp [pPlaces]
set_option maxRecDepth 100000 in
set_option maxHeartbeats 1000000 in
theorem q_places_25 (w : World) : Calls Tryz.prog 235 #[.int .i64 25] w (PlPost (pPlaces 25) w) := by
  go_enter Tryz.func235, Tryz.ntmps235
  go_wp2_with fail
  go_ret
  refine pl_eq ?_ (pl_lit w [1] (by decide))
  simp [pPlaces]
set_option maxRecDepth 100000 in
set_option maxHeartbeats 1000000 in
theorem q_places_26 (w : World) : Calls Tryz.prog 235 #[.int .i64 26] w (PlPost (pPlaces 26) w) := by
  go_enter Tryz.func235, Tryz.ntmps235
  go_wp2_with fail
  go_ret
  refine pl_eq ?_ (pl_lit w [2] (by decide))
  simp [pPlaces]
set_option maxRecDepth 100000 in
set_option maxHeartbeats 1000000 in
theorem q_places_28 (w : World) : Calls Tryz.prog 235 #[.int .i64 28] w (PlPost (pPlaces 28) w) := by
  go_enter Tryz.func235, Tryz.ntmps235
  go_wp2_with fail
  go_ret
  refine pl_eq ?_ (pl_lit w [2, 14] (by decide))
  simp [pPlaces]
set_option maxRecDepth 100000 in
set_option maxHeartbeats 1000000 in
theorem q_places_31 (w : World) : Calls Tryz.prog 235 #[.int .i64 31] w (PlPost (pPlaces 31) w) := by
  go_enter Tryz.func235, Tryz.ntmps235
  go_wp2_with fail
  go_ret
  refine pl_eq ?_ (pl_lit w [2, 4, 5, 6, 7, 9, 11, 14, 15] (by decide))
  simp [pPlaces]
set_option maxRecDepth 100000 in
set_option maxHeartbeats 1000000 in
theorem q_places_33 (w : World) : Calls Tryz.prog 235 #[.int .i64 33] w (PlPost (pPlaces 33) w) := by
  go_enter Tryz.func235, Tryz.ntmps235
  go_wp2_with fail
  go_ret
  refine pl_eq ?_ (pl_lit w [1, 2] (by decide))
  simp [pPlaces]
set_option maxRecDepth 100000 in
set_option maxHeartbeats 1000000 in
theorem q_places_34 (w : World) : Calls Tryz.prog 235 #[.int .i64 34] w (PlPost (pPlaces 34) w) := by
  go_enter Tryz.func235, Tryz.ntmps235
  go_wp2_with fail
  go_ret
  refine pl_eq ?_ (pl_lit w [1, 2] (by decide))
  simp [pPlaces]
set_option maxRecDepth 100000 in
set_option maxHeartbeats 1000000 in
theorem q_places_35 (w : World) : Calls Tryz.prog 235 #[.int .i64 35] w (PlPost (pPlaces 35) w) := by
  go_enter Tryz.func235, Tryz.ntmps235
  go_wp2_with fail
  go_ret
  refine pl_eq ?_ (pl_lit w [3] (by decide))
  simp [pPlaces]
set_option maxRecDepth 100000 in
set_option maxHeartbeats 1000000 in
theorem q_places_36 (w : World) : Calls Tryz.prog 235 #[.int .i64 36] w (PlPost (pPlaces 36) w) := by
  go_enter Tryz.func235, Tryz.ntmps235
  go_wp2_with fail
  go_ret
  refine pl_eq ?_ (pl_lit w [2] (by decide))
  simp [pPlaces]
set_option maxRecDepth 100000 in
set_option maxHeartbeats 1000000 in
theorem q_places_37 (w : World) : Calls Tryz.prog 235 #[.int .i64 37] w (PlPost (pPlaces 37) w) := by
  go_enter Tryz.func235, Tryz.ntmps235
  go_wp2_with fail
  go_ret
  refine pl_eq ?_ (pl_lit w [2] (by decide))
  simp [pPlaces]
set_option maxRecDepth 100000 in
set_option maxHeartbeats 1000000 in
theorem q_places_38 (w : World) : Calls Tryz.prog 235 #[.int .i64 38] w (PlPost (pPlaces 38) w) := by
  go_enter Tryz.func235, Tryz.ntmps235
  go_wp2_with fail
  go_ret
  refine pl_eq ?_ (pl_lit w [1, 2, 3, 4, 5, 6, 7, 8, 9, 10, 11, 14, 15, 16] (by decide))
  simp [pPlaces]
set_option maxRecDepth 100000 in
set_option maxHeartbeats 1000000 in
theorem q_places_39 (w : World) : Calls Tryz.prog 235 #[.int .i64 39] w (PlPost (pPlaces 39) w) := by
  go_enter Tryz.func235, Tryz.ntmps235
  go_wp2_with fail
  go_ret
  refine pl_eq ?_ (pl_lit w [1, 2] (by decide))
  simp [pPlaces]
set_option maxRecDepth 100000 in
set_option maxHeartbeats 1000000 in
theorem q_places_40 (w : World) : Calls Tryz.prog 235 #[.int .i64 40] w (PlPost (pPlaces 40) w) := by
  go_enter Tryz.func235, Tryz.ntmps235
  go_wp2_with fail
  go_ret
  refine pl_eq ?_ (pl_lit w [2] (by decide))
  simp [pPlaces]
set_option maxRecDepth 100000 in
set_option maxHeartbeats 1000000 in
theorem q_places_41 (w : World) : Calls Tryz.prog 235 #[.int .i64 41] w (PlPost (pPlaces 41) w) := by
  go_enter Tryz.func235, Tryz.ntmps235
  go_wp2_with fail
  go_ret
  refine pl_eq ?_ (pl_lit w [2] (by decide))
  simp [pPlaces]
set_option maxRecDepth 100000 in
set_option maxHeartbeats 1000000 in
theorem q_places_42 (w : World) : Calls Tryz.prog 235 #[.int .i64 42] w (PlPost (pPlaces 42) w) := by
  go_enter Tryz.func235, Tryz.ntmps235
  go_wp2_with fail
  go_ret
  refine pl_eq ?_ (pl_lit w [2] (by decide))
  simp [pPlaces]
set_option maxRecDepth 100000 in
set_option maxHeartbeats 4000000 in
theorem q_places (id : Int) (w : World) : Calls Tryz.prog 235 #[.int .i64 id] w (PlPost (pPlaces id) w) := by
  by_cases h1 : id = 1
  · subst h1; exact q_places_1 w
  by_cases h2 : id = 2
  · subst h2; exact q_places_2 w
  by_cases h3 : id = 3
  · subst h3; exact q_places_3 w
  by_cases h8 : id = 8
  · subst h8; exact q_places_8 w
  by_cases h9 : id = 9
  · subst h9; exact q_places_9 w
  by_cases h11 : id = 11
  · subst h11; exact q_places_11 w
  by_cases h17 : id = 17
  · subst h17; exact q_places_17 w
  by_cases h18 : id = 18
  · subst h18; exact q_places_18 w
  by_cases h19 : id = 19
  · subst h19; exact q_places_19 w
  by_cases h21 : id = 21
  · subst h21; exact q_places_21 w
  by_cases h22 : id = 22
  · subst h22; exact q_places_22 w
  by_cases h23 : id = 23
  · subst h23; exact q_places_23 w
  by_cases h24 : id = 24
  · subst h24; exact q_places_24 w
  by_cases h25 : id = 25
  · subst h25; exact q_places_25 w
  by_cases h26 : id = 26
  · subst h26; exact q_places_26 w
  by_cases h28 : id = 28
  · subst h28; exact q_places_28 w
  by_cases h31 : id = 31
  · subst h31; exact q_places_31 w
  by_cases h33 : id = 33
  · subst h33; exact q_places_33 w
  by_cases h34 : id = 34
  · subst h34; exact q_places_34 w
  by_cases h35 : id = 35
  · subst h35; exact q_places_35 w
  by_cases h36 : id = 36
  · subst h36; exact q_places_36 w
  by_cases h37 : id = 37
  · subst h37; exact q_places_37 w
  by_cases h38 : id = 38
  · subst h38; exact q_places_38 w
  by_cases h39 : id = 39
  · subst h39; exact q_places_39 w
  by_cases h40 : id = 40
  · subst h40; exact q_places_40 w
  by_cases h41 : id = 41
  · subst h41; exact q_places_41 w
  by_cases h42 : id = 42
  · subst h42; exact q_places_42 w
  have HV : Hid (pPlaces id = []) := by show _ = _; simp [pPlaces, *]
  have e1 : (id == 1) = false := by simpa using h1
  have e2 : (id == 2) = false := by simpa using h2
  have e3 : (id == 3) = false := by simpa using h3
  have e8 : (id == 8) = false := by simpa using h8
  have e9 : (id == 9) = false := by simpa using h9
  have e11 : (id == 11) = false := by simpa using h11
  have e17 : (id == 17) = false := by simpa using h17
  have e18 : (id == 18) = false := by simpa using h18
  have e19 : (id == 19) = false := by simpa using h19
  have e21 : (id == 21) = false := by simpa using h21
  have e22 : (id == 22) = false := by simpa using h22
  have e23 : (id == 23) = false := by simpa using h23
  have e24 : (id == 24) = false := by simpa using h24
  have e25 : (id == 25) = false := by simpa using h25
  have e26 : (id == 26) = false := by simpa using h26
  have e28 : (id == 28) = false := by simpa using h28
  have e31 : (id == 31) = false := by simpa using h31
  have e33 : (id == 33) = false := by simpa using h33
  have e34 : (id == 34) = false := by simpa using h34
  have e35 : (id == 35) = false := by simpa using h35
  have e36 : (id == 36) = false := by simpa using h36
  have e37 : (id == 37) = false := by simpa using h37
  have e38 : (id == 38) = false := by simpa using h38
  have e39 : (id == 39) = false := by simpa using h39
  have e40 : (id == 40) = false := by simpa using h40
  have e41 : (id == 41) = false := by simpa using h41
  have e42 : (id == 42) = false := by simpa using h42
  clear h1 h2 h3 h8 h9 h11 h17 h18 h19 h21 h22 h23 h24 h25 h26 h28 h31 h33 h34 h35 h36 h37 h38 h39 h40 h41 h42
  go_enter Tryz.func235, Tryz.ntmps235
  go_wp2_with fail
  go_ret
  rw [HV.out]
  exact pl_nil w
theorem pPlaces_len (id : Int) : (pPlaces id).length ≤ 20 := by
  unfold pPlaces
  by_cases h : id ∈ [1, 2, 3, 8, 9]
  · rw [if_pos h]; decide
  rw [if_neg h]; clear h
  by_cases h : id = 11
  · rw [if_pos h]; decide
  rw [if_neg h]; clear h
  by_cases h : id = 35
  · rw [if_pos h]; decide
  rw [if_neg h]; clear h
  by_cases h : id = 24
  · rw [if_pos h]; decide
  rw [if_neg h]; clear h
  by_cases h : id ∈ [23, 25]
  · rw [if_pos h]; decide
  rw [if_neg h]; clear h
  by_cases h : id ∈ [18, 19, 26, 36, 37, 40, 41, 42]
  · rw [if_pos h]; decide
  rw [if_neg h]; clear h
  by_cases h : id = 28
  · rw [if_pos h]; decide
  rw [if_neg h]; clear h
  by_cases h : id ∈ [33, 34, 39]
  · rw [if_pos h]; decide
  rw [if_neg h]; clear h
  by_cases h : id = 17
  · rw [if_pos h]; decide
  rw [if_neg h]; clear h
  by_cases h : id ∈ [21, 22]
  · rw [if_pos h]; decide
  rw [if_neg h]; clear h
  by_cases h : id = 31
  · rw [if_pos h]; decide
  rw [if_neg h]; clear h
  by_cases h : id = 38
  · rw [if_pos h]; decide
  rw [if_neg h]; clear h
  decide

set_option maxRecDepth 100000 in
set_option maxHeartbeats 2000000 in
theorem q_allowed (id place : Int) (w : World) :
    Calls Tryz.prog 205 #[.int .i64 id, .int .i64 place] w fun e w' => e = .returned (.bool (pAllowed id place)) ∧ Pure w w' := by
  have hlen := pPlaces_len id
  have HC := Lib.hid (q_places id w)
  have HA : Hid (pAllowed id place = decide (place ∈ pPlaces id)) := rfl
  generalize pPlaces id = l at *
  generalize pAllowed id place = ans at *
  go_enter Tryz.func205, Tryz.ntmps205
  go_wp2_with fail
  refine HC.out.mono ?_
  rintro e w1 ⟨A, c, rfl, hr, hP⟩
  have HP := Lib.hid hP
  have HRR := Lib.hid hr
  clear hP hr
  go_wp2_with fail
  go_loop [6] (fun i => ∃ k : Nat, k ≤ l.length ∧ i = .int .i64 k ∧ Hid (∀ j, j < k → l.getD j 0 ≠ place)) (fun i => l.length - (intOf i).toNat)
  case atStart => exact ⟨0, by omega, rfl, fun j hj => by omega⟩
  case round =>
    obtain ⟨k, hk, rfl, HN⟩ := hrel
    by_cases hlt : k < l.length
    · obtain ⟨ad, u, rfl, _, hx, hc⟩ := HRR.out.at_ hlt
      rw [ints_at l k hlt] at hx
      injection hx with hx
      subst hx
      by_cases he : l.getD k 0 = place
      · have h1 : (l.getD k 0 == place) = true := by rw [beq_iff_eq]; exact he
        have HM : Hid (place ∈ l) := by
          show place ∈ l
          rw [← he]
          simp [List.getD, hlt]
        clear he
        generalize l.getD k 0 = y at *
        go_wp2_with fail
        go_ret
        rw [HA.out]
        exact ⟨by simp [HM.out], HP.out⟩
      · have h1 : (l.getD k 0 == place) = false := by simp; exact he
        have HM : Hid (∀ j, j < k + 1 → l.getD j 0 ≠ place) := fun j hj => by
          rcases Nat.lt_or_ge j k with h | h
          · exact HN.out j h
          · obtain rfl : j = k := by omega
            exact he
        clear he
        generalize l.getD k 0 = y at *
        go_wp2_with fail
        go_round
        case rel => exact ⟨k + 1, by omega, by go_num, HM⟩
        case measure => simp [intOf]; omega
    · obtain rfl : k = l.length := by omega
      have HM : Hid (place ∉ l) := by
        intro hm
        obtain ⟨j, hj, he⟩ := List.getElem_of_mem hm
        exact HN.out j hj (by simp [List.getD, hj, he])
      clear hlt
      go_wp2_with fail
      go_ret
      rw [HA.out]
      exact ⟨by simp [HM.out], HP.out⟩
end Go.Proofs.YthokkjdolcfhcaaGreatDoor

set_option linter.unusedVariables false
namespace Go.Proofs.YthokkjdolcfhcaaGreatDoor
open Go.RowKit

set_option maxRecDepth 100000 in
set_option maxHeartbeats 1000000 in
theorem f_do_1 (g : Nat) (st : RS) (w : World) (hR : Rf w g st) :
    Calls Tryz.prog 207 #[.pointer (some ⟨g, 0, none⟩), .agg #[.int .i64 1, .int .i64 0, .string ⟨#[]⟩]] w fun e w' => e = .returned (.tuple #[.int .i64 (st.num 1).1, .string ⟨#[]⟩]) ∧ Rf w' g (st.num 1).2 ∧ Only g w w' := by
  have HR := Lib.hid hR
  have HP1 : Hid (Pure w (w.alloc (.cells #[.int .i64 1, .int .i64 0, .string ⟨#[]⟩] 111))) := (Keep.refl _ w).alloc _
  clear hR
  go_enter Tryz.func207, Tryz.ntmps207
  go_wp2_with fail
  generalize w.alloc (.cells #[.int .i64 1, .int .i64 0, .string ⟨#[]⟩] 111) = w1 at *
  have HR1 := Lib.hid (HR.out.pure HP1.out)
  refine (f_u8 g st w1 HR1.out).mono ?_; rintro e w2 ⟨rfl, h1, h2⟩
  have HR2 := Lib.hid h1
  have HP2 := Lib.hid ((Keep.of_pure HP1.out).trans h2)
  clear h1 h2
  go_wp2_with fail
  refine bodyPost_ret (v := .tuple #[.int .i64 (st.num 1).1, .string ⟨#[]⟩]) (by simp [results, Tryz.results207, go_sem]) rfl ?_
  exact ⟨rfl, HR2.out, HP2.out⟩

set_option maxRecDepth 100000 in
set_option maxHeartbeats 1000000 in
theorem f_do_2 (g : Nat) (st : RS) (w : World) (hR : Rf w g st) :
    Calls Tryz.prog 207 #[.pointer (some ⟨g, 0, none⟩), .agg #[.int .i64 2, .int .i64 0, .string ⟨#[]⟩]] w fun e w' => e = .returned (.tuple #[.int .i64 (st.num 2).1, .string ⟨#[]⟩]) ∧ Rf w' g (st.num 2).2 ∧ Only g w w' := by
  have HR := Lib.hid hR
  have HP1 : Hid (Pure w (w.alloc (.cells #[.int .i64 2, .int .i64 0, .string ⟨#[]⟩] 111))) := (Keep.refl _ w).alloc _
  clear hR
  go_enter Tryz.func207, Tryz.ntmps207
  go_wp2_with fail
  generalize w.alloc (.cells #[.int .i64 2, .int .i64 0, .string ⟨#[]⟩] 111) = w1 at *
  have HR1 := Lib.hid (HR.out.pure HP1.out)
  refine (f_u16 g st w1 HR1.out).mono ?_; rintro e w2 ⟨rfl, h1, h2⟩
  have HR2 := Lib.hid h1
  have HP2 := Lib.hid ((Keep.of_pure HP1.out).trans h2)
  clear h1 h2
  go_wp2_with fail
  refine bodyPost_ret (v := .tuple #[.int .i64 (st.num 2).1, .string ⟨#[]⟩]) (by simp [results, Tryz.results207, go_sem]) rfl ?_
  exact ⟨rfl, HR2.out, HP2.out⟩

set_option maxRecDepth 100000 in
set_option maxHeartbeats 1000000 in
theorem f_do_4 (g : Nat) (st : RS) (w : World) (hR : Rf w g st) :
    Calls Tryz.prog 207 #[.pointer (some ⟨g, 0, none⟩), .agg #[.int .i64 4, .int .i64 0, .string ⟨#[]⟩]] w fun e w' => e = .returned (.tuple #[.int .i64 (st.num 4).1, .string ⟨#[]⟩]) ∧ Rf w' g (st.num 4).2 ∧ Only g w w' := by
  have HR := Lib.hid hR
  have HP1 : Hid (Pure w (w.alloc (.cells #[.int .i64 4, .int .i64 0, .string ⟨#[]⟩] 111))) := (Keep.refl _ w).alloc _
  clear hR
  go_enter Tryz.func207, Tryz.ntmps207
  go_wp2_with fail
  generalize w.alloc (.cells #[.int .i64 4, .int .i64 0, .string ⟨#[]⟩] 111) = w1 at *
  have HR1 := Lib.hid (HR.out.pure HP1.out)
  refine (f_u32 g st w1 HR1.out).mono ?_; rintro e w2 ⟨rfl, h1, h2⟩
  have HR2 := Lib.hid h1
  have HP2 := Lib.hid ((Keep.of_pure HP1.out).trans h2)
  clear h1 h2
  go_wp2_with fail
  refine bodyPost_ret (v := .tuple #[.int .i64 (st.num 4).1, .string ⟨#[]⟩]) (by simp [results, Tryz.results207, go_sem]) rfl ?_
  exact ⟨rfl, HR2.out, HP2.out⟩

set_option maxRecDepth 100000 in
set_option maxHeartbeats 1000000 in
theorem f_do_5 (g : Nat) (st : RS) (w : World) (hR : Rf w g st) :
    Calls Tryz.prog 207 #[.pointer (some ⟨g, 0, none⟩), .agg #[.int .i64 5, .int .i64 0, .string ⟨#[]⟩]] w fun e w' => e = .returned (.tuple #[.int .i64 st.var.1, .string ⟨#[]⟩]) ∧ Rf w' g st.var.2 ∧ Only g w w' := by
  have HR := Lib.hid hR
  have HP1 : Hid (Pure w (w.alloc (.cells #[.int .i64 5, .int .i64 0, .string ⟨#[]⟩] 111))) := (Keep.refl _ w).alloc _
  clear hR
  go_enter Tryz.func207, Tryz.ntmps207
  go_wp2_with fail
  generalize w.alloc (.cells #[.int .i64 5, .int .i64 0, .string ⟨#[]⟩] 111) = w1 at *
  have HR1 := Lib.hid (HR.out.pure HP1.out)
  refine (f_var g st w1 HR1.out).mono ?_; rintro e w2 ⟨rfl, h1, h2⟩
  have HR2 := Lib.hid h1
  have HP2 := Lib.hid ((Keep.of_pure HP1.out).trans h2)
  clear h1 h2
  go_wp2_with fail
  refine bodyPost_ret (v := .tuple #[.int .i64 st.var.1, .string ⟨#[]⟩]) (by simp [results, Tryz.results207, go_sem]) rfl ?_
  exact ⟨rfl, HR2.out, HP2.out⟩

set_option maxRecDepth 100000 in
set_option maxHeartbeats 1000000 in
theorem f_do_6 (g : Nat) (st : RS) (w : World) (hR : Rf w g st) :
    Calls Tryz.prog 207 #[.pointer (some ⟨g, 0, none⟩), .agg #[.int .i64 6, .int .i64 0, .string ⟨#[]⟩]] w fun e w' => e = .returned (.tuple #[.int .i64 0, .string st.text.1]) ∧ Rf w' g st.text.2 ∧ Only g w w' := by
  have HR := Lib.hid hR
  have HP1 : Hid (Pure w (w.alloc (.cells #[.int .i64 6, .int .i64 0, .string ⟨#[]⟩] 111))) := (Keep.refl _ w).alloc _
  clear hR
  go_enter Tryz.func207, Tryz.ntmps207
  go_wp2_with fail
  generalize w.alloc (.cells #[.int .i64 6, .int .i64 0, .string ⟨#[]⟩] 111) = w1 at *
  have HR1 := Lib.hid (HR.out.pure HP1.out)
  refine (f_text g st w1 HR1.out).mono ?_; rintro e w2 ⟨rfl, h1, h2⟩
  have HR2 := Lib.hid h1
  have HP2 := Lib.hid ((Keep.of_pure HP1.out).trans h2)
  clear h1 h2
  go_wp2_with fail
  refine bodyPost_ret (v := .tuple #[.int .i64 0, .string st.text.1]) (by simp [results, Tryz.results207, go_sem]) rfl ?_
  exact ⟨rfl, HR2.out, HP2.out⟩

set_option maxRecDepth 100000 in
set_option maxHeartbeats 1000000 in
theorem f_do_7 (g : Nat) (st : RS) (w : World) (hR : Rf w g st) :
    Calls Tryz.prog 207 #[.pointer (some ⟨g, 0, none⟩), .agg #[.int .i64 7, .int .i64 0, .string ⟨#[]⟩]] w fun e w' => e = .returned (.tuple #[.int .i64 0, .string st.bin.1]) ∧ Rf w' g st.bin.2 ∧ Only g w w' := by
  have HR := Lib.hid hR
  have HP1 : Hid (Pure w (w.alloc (.cells #[.int .i64 7, .int .i64 0, .string ⟨#[]⟩] 111))) := (Keep.refl _ w).alloc _
  clear hR
  go_enter Tryz.func207, Tryz.ntmps207
  go_wp2_with fail
  generalize w.alloc (.cells #[.int .i64 7, .int .i64 0, .string ⟨#[]⟩] 111) = w1 at *
  have HR1 := Lib.hid (HR.out.pure HP1.out)
  refine (f_bin g st w1 HR1.out).mono ?_; rintro e w2 ⟨rfl, h1, h2⟩
  have HR2 := Lib.hid h1
  have HP2 := Lib.hid ((Keep.of_pure HP1.out).trans h2)
  clear h1 h2
  go_wp2_with fail
  refine bodyPost_ret (v := .tuple #[.int .i64 0, .string st.bin.1]) (by simp [results, Tryz.results207, go_sem]) rfl ?_
  exact ⟨rfl, HR2.out, HP2.out⟩
end Go.Proofs.YthokkjdolcfhcaaGreatDoor

set_option linter.unusedVariables false
namespace Go.Proofs.YthokkjdolcfhcaaGreatDoor
open Go.RowKit

def fr : Option Flt → Int
  | none => 0
  | some f => f.r
/-- a fault as the reference's structure -/
def fltVal (k r a : Int) : Value := .agg #[.int .i64 k, .int .i64 r, .int .i64 a]
def GrPost (f : Option Flt) (w : World) (e : Ending) (w' : World) : Prop := e = .returned (fltVal (fk f) (fr f) 0) ∧ Pure w w'

set_option maxRecDepth 100000 in
set_option maxHeartbeats 1000000 in
theorem q_ground (place : Int) (A : Option Addr) (c B : Nat) (l : List Pr) (id : Int) (w : World) (hr : Reads w B 4 A l.length (prRow l)) (hB : B ≤ w.heap.size) (hl0 : l.length ≤ 140737488351232) :
    Calls Tryz.prog 145 #[.int .i64 place, .slice A l.length c, .int .i64 id] w (GrPost (pGround place l id 0) w) := by
  have HRR := Lib.hid hr
  clear hr
  by_cases hl : 64 ≤ l.length
  · have HV : Hid (pGround place l id 0 = some ⟨4, 149, 0⟩) := if_pos hl
    go_enter Tryz.func145, Tryz.ntmps145
    go_wp2_with fail
    refine bodyPost_ret (v := fltVal 4 149 0) (by simp [results, Tryz.results145, go_sem, fltVal]) rfl ?_
    unfold GrPost
    rw [HV.out]
    exact ⟨rfl, ((Keep.refl _ _).alloc _)⟩
  have hl2 : l.length < 64 := by omega
  have HL := Lib.hid hl
  clear hl
  by_cases ht : pType id = 0
  · have HV : Hid (pGround place l id 0 = some ⟨2, 129, 0⟩) := by show _ = _; unfold pGround; rw [if_neg HL.out, if_pos (.inl ht)]
    have HT := Lib.hid ht
    clear ht
    go_enter Tryz.func145, Tryz.ntmps145
    go_wp2_with fail
    refine (q_type _ _).mono ?_; rintro e w' ⟨rfl, rfl⟩
    rw [HT.out]
    go_wp2_with fail
    refine bodyPost_ret (v := fltVal 2 129 0) (by simp [results, Tryz.results145, go_sem, fltVal]) rfl ?_
    unfold GrPost
    rw [HV.out]
    exact ⟨rfl, ((Keep.refl _ _).alloc _)⟩
  have ht0 : (pType id == 0) = false := by simpa using ht
  have HT := Lib.hid ht
  clear ht
  by_cases ha : pAllowed id place = false
  · have HV : Hid (pGround place l id 0 = some ⟨2, 129, 0⟩) := by show _ = _; unfold pGround; rw [if_neg HL.out, if_pos (.inr ha)]
    have HA := Lib.hid ha
    clear ha HT
    go_enter Tryz.func145, Tryz.ntmps145
    go_wp2_with fail
    refine (q_type _ _).mono ?_; rintro e w' ⟨rfl, rfl⟩
    generalize pType id = ty at *
    have HBz : Hid (Blk (w.alloc (.cells #[.int .i64 0, .int .i64 0, .int .i64 0] 34)) w.heap.size 34 #[.int .i64 0, .int .i64 0, .int .i64 0]) := Blk.new _ _ _
    have HPz : Hid (Pure w (w.alloc (.cells #[.int .i64 0, .int .i64 0, .int .i64 0] 34))) := (Keep.refl _ w).alloc _
    go_wp2_with fail
    generalize w.alloc (.cells #[.int .i64 0, .int .i64 0, .int .i64 0] 34) = w1 at *
    refine (q_allowed _ _ _).mono ?_; rintro e w2 ⟨rfl, hP⟩
    rw [HA.out]
    have HB2 := Lib.hid (hP.blk HBz.out fun hf => hf)
    have HP2 := Lib.hid (HPz.out.trans hP)
    have a0 := HB2.out.cell 0
    have a1 := HB2.out.cell 1
    have a2 := HB2.out.cell 2
    have fz := HB2.out.frozen
    have hlt2 := HB2.out.lt
    simp at a0 a1 a2
    clear hP
    go_wp2_with fail
    refine bodyPost_ret (v := fltVal 2 129 0) (by simp [results, Tryz.results145, go_sem, fltVal, a0, a1, a2, hlt2]) rfl ?_
    unfold GrPost
    rw [HV.out]
    refine ⟨rfl, HP2.out.seq (T := fun i => i = w.heap.size) ?_ fun i hi => .inr (by omega)⟩
    repeat (first | exact Keep.refl _ _ | refine Keep.setCell ?_ (by simp) _)
  have HA : Hid (pAllowed id place = true) := by show _ = _; simpa using ha
  have HTA : Hid (¬ (pType id = 0 ∨ pAllowed id place = false)) := by rintro (h | h); exact HT.out h; exact ha h
  clear ha HT
  have HGR : Hid (pGround place l id 0 = if pOften id place = false ∧ (∃ p ∈ l, p.id = id) then some ⟨3, 130, 0⟩ else none) := by
    show _ = _
    unfold pGround
    rw [if_neg HL.out, if_neg HTA.out]
  clear HTA
  go_enter Tryz.func145, Tryz.ntmps145
  go_wp2_with fail
  refine (q_type _ _).mono ?_; rintro e w' ⟨rfl, rfl⟩
  generalize pType id = ty at *
  have HBz : Hid (Blk (w.alloc (.cells #[.int .i64 0, .int .i64 0, .int .i64 0] 34)) w.heap.size 34 #[.int .i64 0, .int .i64 0, .int .i64 0]) := Blk.new _ _ _
  have HPz : Hid (Pure w (w.alloc (.cells #[.int .i64 0, .int .i64 0, .int .i64 0] 34))) := (Keep.refl _ w).alloc _
  go_wp2_with fail
  generalize w.alloc (.cells #[.int .i64 0, .int .i64 0, .int .i64 0] 34) = w1 at *
  refine (q_allowed _ _ _).mono ?_; rintro e w2 ⟨rfl, hP⟩
  rw [HA.out]
  have HB2 := Lib.hid (hP.blk HBz.out fun hf => hf)
  have HP2 := Lib.hid (HPz.out.trans hP)
  have a0 := HB2.out.cell 0
  have a1 := HB2.out.cell 1
  have a2 := HB2.out.cell 2
  have fz := HB2.out.frozen
  have hlt2 := HB2.out.lt
  simp at a0 a1 a2
  have HRR2 := Lib.hid (HRR.out.pure HP2.out hB)
  obtain ⟨R, HRW⟩ : ∃ R : Nat → Prop, Hid (∀ k, R k ↔ (pOften id place = false → ∀ j (hj : j < l.length), j < k → l[j].id ≠ id)) := ⟨_, fun k => Iff.rfl⟩
  clear hP ht0
  go_wp2_with fail
  go_loop [7] (fun i => ∃ k : Nat, k ≤ l.length ∧ i = .int .i64 k ∧ Hid (R k)) (fun i => l.length - (intOf i).toNat)
  case atStart => exact ⟨0, by omega, rfl, (HRW.out 0).2 fun _ j hj hk => by omega⟩
  case round =>
    obtain ⟨k, hk, rfl, HNR⟩ := hrel
    have HN := Lib.hid ((HRW.out k).1 HNR.out)
    by_cases hlt : k < l.length
    · obtain ⟨ad, rfl, _, d0, d1, d2, d3⟩ := HRR2.out.pr k hlt
      have HNX : Hid ((pOften id place = false → l[k].id ≠ id) → R (k + 1)) := fun h => (HRW.out (k + 1)).2 fun ho j hj hjk => by
        rcases Nat.lt_or_ge j k with h1 | h1
        · exact HN.out ho j hj h1
        · obtain rfl : j = k := by omega
          exact h ho
      have HYES : Hid (pOften id place = false → l[k].id = id → pGround place l id 0 = some ⟨3, 130, 0⟩) := fun ho he => by
        rw [HGR.out, if_pos ⟨ho, l[k], List.getElem_mem _, he⟩]
      generalize l[k] = p at *
      by_cases he : p.id = id
      · have h1 : (p.id == id) = true := by simp [he]
        by_cases h38 : id = 38
        · have HO : Hid (pOften id place = true) := by show _ = _; simp [pOften, h38]
          have h2 : (id == 38) = true := by simp [h38]
          have h2' : (id != 38) = false := by simp [h38]
          have h3 : (id == 11) = false := by simp [h38]
          have HX := Lib.hid (HNX.out (fun h => by rw [HO.out] at h; cases h))
          clear he h38 HYES HNX
          go_wp2_with fail
          go_round
          case rel => exact ⟨k + 1, by omega, by go_num, HX⟩
          case measure => simp [intOf]; omega
        · have h2 : (id == 38) = false := by simp [h38]
          have h2' : (id != 38) = true := by simp [h38]
          by_cases h11 : id = 11
          · have h3 : (id == 11) = true := by simp [h11]
            by_cases hp : place = 3
            · have h4 : (place == 3) = true := by simp [hp]
              have HO : Hid (pOften id place = true) := by show _ = _; simp [pOften, h11, hp]
              have HX := Lib.hid (HNX.out (fun h => by rw [HO.out] at h; cases h))
              clear he h38 h11 hp HYES HNX
              go_wp2_with fail
              go_round
              case rel => exact ⟨k + 1, by omega, by go_num, HX⟩
              case measure => simp [intOf]; omega
            · have h4 : (place == 3) = false := by simp [hp]
              have HV := Lib.hid (HYES.out (by simp [pOften, h38, hp]) he)
              clear he h38 h11 hp HYES HNX
              go_wp2_with fail
              refine bodyPost_ret (v := fltVal 3 130 0) (by simp [results, Tryz.results145, go_sem, fltVal, a0, a1, a2, hlt2]) rfl ?_
              unfold GrPost
              rw [HV.out]
              refine ⟨rfl, HP2.out.seq (T := fun i => i = w.heap.size) ?_ fun i hi => .inr (by omega)⟩
              repeat (first | exact Keep.refl _ _ | refine Keep.setCell ?_ (by simp) _)
          · have h3 : (id == 11) = false := by simp [h11]
            have HV := Lib.hid (HYES.out (by simp [pOften, h38, h11]) he)
            clear he h38 h11 HYES HNX
            go_wp2_with fail
            refine bodyPost_ret (v := fltVal 3 130 0) (by simp [results, Tryz.results145, go_sem, fltVal, a0, a1, a2, hlt2]) rfl ?_
            unfold GrPost
            rw [HV.out]
            refine ⟨rfl, HP2.out.seq (T := fun i => i = w.heap.size) ?_ fun i hi => .inr (by omega)⟩
            repeat (first | exact Keep.refl _ _ | refine Keep.setCell ?_ (by simp) _)
      · have h1 : (p.id == id) = false := by simp [he]
        have HX := Lib.hid (HNX.out (fun _ => he))
        clear he HYES HNX
        go_wp2_with fail
        go_round
        case rel => exact ⟨k + 1, by omega, by go_num, HX⟩
        case measure => simp [intOf]; omega
    · obtain rfl : k = l.length := by omega
      have HV : Hid (pGround place l id 0 = none) := by
        show _ = _
        rw [HGR.out, if_neg]
        rintro ⟨ho, p, hm, he⟩
        obtain ⟨j, hj, hje⟩ := List.getElem_of_mem hm
        exact HN.out ho j hj hj (by rw [hje]; exact he)
      clear hlt
      go_wp2_with fail
      refine bodyPost_ret (v := fltVal 0 0 0) (by simp [results, Tryz.results145, go_sem, fltVal, a0, a1, a2, hlt2]) rfl ?_
      unfold GrPost
      rw [HV.out]
      refine ⟨rfl, HP2.out.seq (T := fun i => i = w.heap.size) ?_ fun i hi => .inr (by omega)⟩
      repeat (first | exact Keep.refl _ _ | refine Keep.setCell ?_ (by simp) _)
end Go.Proofs.YthokkjdolcfhcaaGreatDoor

set_option linter.unusedVariables false
namespace Go.Proofs.YthokkjdolcfhcaaGreatDoor
open Go.RowKit

theorem Rf.keep {w w' : World} {g : Nat} {st : RS} {S : Nat → Prop} (h : Rf w g st) (k : Keep S w w') (t : TypeId) (ht : t ≠ 88) (hS : ∀ i, S i → ∃ cs, Blk w i t cs) : Rf w' g st :=
  ⟨k.blk h.1 (fun hs => by obtain ⟨cs, hc⟩ := hS _ hs; exact Blk.ne_ hc h.1 ht rfl), h.2⟩
/-- A block of another kind outlives what a reader does. -/
theorem Blk.rf {w w' : World} {g h : Nat} {st : RS} {t : TypeId} {cs : Array Value} (hB : Blk w h t cs) (k : Only g w w') (hR : Rf w g st) (ht : t ≠ 88) : Blk w' h t cs :=
  k.blk hB fun e => by subst e; exact Blk.ne_ hB hR.1 ht rfl
def QvPost (g : Nat) (x : Pr × RS) (w : World) (e : Ending) (w' : World) : Prop :=
  e = .returned (.agg #[.int .i64 x.1.id, .int .i64 x.1.n, .string x.1.s, .string x.1.v]) ∧ Rf w' g x.2 ∧ Only g w w'
theorem qv_end {g h0 : Nat} {st : RS} {w w2 w3 : World} {cs0 cs1 : Array Value} (hR : Rf w2 g st) (hP : Only g w w2) (h0s : w.heap.size ≤ h0) (hb0 : Blk w2 h0 152 cs0) (hb1 : Blk w2 (h0 + 1) 152 cs1)
    (k : Keep (fun i => i = h0 ∨ i = h0 + 1) w2 w3) : Rf w3 g st ∧ Only g w w3 :=
  ⟨hR.keep k 152 (by decide) (fun i hi => by rcases hi with rfl | rfl; exact ⟨_, hb0⟩; exact ⟨_, hb1⟩), hP.seq k fun i hi => .inr (by omega)⟩

set_option maxRecDepth 100000 in
set_option maxHeartbeats 1000000 in
theorem q_value_1 (g : Nat) (st : RS) (id : Int) (w : World) (hR : Rf w g st) (ht : pType id = 1) :
    Calls Tryz.prog 146 #[.pointer (some ⟨g, 0, none⟩), .int .i64 id] w (QvPost g (pValue st id) w) := by
  have HR := Lib.hid hR
  have HT := Lib.hid ht
  have HV : Hid (pValue st id = (⟨id, (st.num 1).1, noBytes, noBytes⟩, (st.num 1).2)) := by show _ = _; unfold pValue; rw [ht]; rfl
  clear hR ht
  go_enter Tryz.func146, Tryz.ntmps146
  go_wp2_with fail
  refine (q_type _ _).mono ?_; rintro e w' ⟨rfl, rfl⟩
  rw [HT.out]
  obtain ⟨HBa, HBb, HPa, hsz⟩ := blk_two w 152 #[.int .i64 0, .int .i64 0, .string ⟨#[]⟩, .string ⟨#[]⟩] #[.int .i64 id, .int .i64 0, .string ⟨#[]⟩, .string ⟨#[]⟩]
  go_wp2_with fail
  generalize (w.alloc (.cells #[.int .i64 0, .int .i64 0, .string ⟨#[]⟩, .string ⟨#[]⟩] 152)).alloc (.cells #[.int .i64 id, .int .i64 0, .string ⟨#[]⟩, .string ⟨#[]⟩] 152) = w1 at *
  have HR1 := Lib.hid (HR.out.pure HPa.out)
  refine (f_do_1 g st _ HR1.out).mono ?_; rintro e w2 ⟨rfl, h1, h2⟩
  have HR2 := Lib.hid h1
  have HP2 := Lib.hid ((Keep.of_pure HPa.out).trans h2)
  have HBa2 := Lib.hid (HBa.out.rf h2 HR1.out (by decide))
  have HBb2 := Lib.hid (HBb.out.rf h2 HR1.out (by decide))
  clear h1 h2 hsz
  have a0 := HBa2.out.cell 0
  have a1 := HBa2.out.cell 1
  have a2 := HBa2.out.cell 2
  have a3 := HBa2.out.cell 3
  have b0 := HBb2.out.cell 0
  have b1 := HBb2.out.cell 1
  have b2 := HBb2.out.cell 2
  have b3 := HBb2.out.cell 3
  have fa := HBa2.out.frozen
  have fb := HBb2.out.frozen
  have hlt : w.heap.size < w2.heap.size := HBa2.out.lt
  have hlt2 : w.heap.size + 1 < w2.heap.size := HBb2.out.lt
  simp at a0 a1 a2 a3 b0 b1 b2 b3
  go_wp2_with fail
  refine bodyPost_ret (v := .agg #[.int .i64 id, .int .i64 ((st.num 1).1 : Nat), .string noBytes, .string noBytes]) (by simp [results, Tryz.results146, go_sem, a0, a1, a2, a3, b0, b1, b2, b3, noBytes]) rfl ?_
  unfold QvPost
  rw [HV.out]
  refine ⟨rfl, qv_end HR2.out HP2.out (Nat.le_refl _) HBa2.out HBb2.out ?_⟩
  repeat (with_reducible refine Keep.setCell ?_ (by simp) _)
  exact Keep.refl _ _

set_option maxRecDepth 100000 in
set_option maxHeartbeats 1000000 in
theorem q_value_2 (g : Nat) (st : RS) (id : Int) (w : World) (hR : Rf w g st) (ht : pType id = 2) :
    Calls Tryz.prog 146 #[.pointer (some ⟨g, 0, none⟩), .int .i64 id] w (QvPost g (pValue st id) w) := by
  have HR := Lib.hid hR
  have HT := Lib.hid ht
  have HV : Hid (pValue st id = (⟨id, (st.num 2).1, noBytes, noBytes⟩, (st.num 2).2)) := by show _ = _; unfold pValue; rw [ht]; rfl
  clear hR ht
  go_enter Tryz.func146, Tryz.ntmps146
  go_wp2_with fail
  refine (q_type _ _).mono ?_; rintro e w' ⟨rfl, rfl⟩
  rw [HT.out]
  obtain ⟨HBa, HBb, HPa, hsz⟩ := blk_two w 152 #[.int .i64 0, .int .i64 0, .string ⟨#[]⟩, .string ⟨#[]⟩] #[.int .i64 id, .int .i64 0, .string ⟨#[]⟩, .string ⟨#[]⟩]
  go_wp2_with fail
  generalize (w.alloc (.cells #[.int .i64 0, .int .i64 0, .string ⟨#[]⟩, .string ⟨#[]⟩] 152)).alloc (.cells #[.int .i64 id, .int .i64 0, .string ⟨#[]⟩, .string ⟨#[]⟩] 152) = w1 at *
  have HR1 := Lib.hid (HR.out.pure HPa.out)
  refine (f_do_2 g st _ HR1.out).mono ?_; rintro e w2 ⟨rfl, h1, h2⟩
  have HR2 := Lib.hid h1
  have HP2 := Lib.hid ((Keep.of_pure HPa.out).trans h2)
  have HBa2 := Lib.hid (HBa.out.rf h2 HR1.out (by decide))
  have HBb2 := Lib.hid (HBb.out.rf h2 HR1.out (by decide))
  clear h1 h2 hsz
  have a0 := HBa2.out.cell 0
  have a1 := HBa2.out.cell 1
  have a2 := HBa2.out.cell 2
  have a3 := HBa2.out.cell 3
  have b0 := HBb2.out.cell 0
  have b1 := HBb2.out.cell 1
  have b2 := HBb2.out.cell 2
  have b3 := HBb2.out.cell 3
  have fa := HBa2.out.frozen
  have fb := HBb2.out.frozen
  have hlt : w.heap.size < w2.heap.size := HBa2.out.lt
  have hlt2 : w.heap.size + 1 < w2.heap.size := HBb2.out.lt
  simp at a0 a1 a2 a3 b0 b1 b2 b3
  go_wp2_with fail
  refine bodyPost_ret (v := .agg #[.int .i64 id, .int .i64 ((st.num 2).1 : Nat), .string noBytes, .string noBytes]) (by simp [results, Tryz.results146, go_sem, a0, a1, a2, a3, b0, b1, b2, b3, noBytes]) rfl ?_
  unfold QvPost
  rw [HV.out]
  refine ⟨rfl, qv_end HR2.out HP2.out (Nat.le_refl _) HBa2.out HBb2.out ?_⟩
  repeat (with_reducible refine Keep.setCell ?_ (by simp) _)
  exact Keep.refl _ _

set_option maxRecDepth 100000 in
set_option maxHeartbeats 1000000 in
theorem q_value_4 (g : Nat) (st : RS) (id : Int) (w : World) (hR : Rf w g st) (ht : pType id = 4) :
    Calls Tryz.prog 146 #[.pointer (some ⟨g, 0, none⟩), .int .i64 id] w (QvPost g (pValue st id) w) := by
  have HR := Lib.hid hR
  have HT := Lib.hid ht
  have HV : Hid (pValue st id = (⟨id, (st.num 4).1, noBytes, noBytes⟩, (st.num 4).2)) := by show _ = _; unfold pValue; rw [ht]; rfl
  clear hR ht
  go_enter Tryz.func146, Tryz.ntmps146
  go_wp2_with fail
  refine (q_type _ _).mono ?_; rintro e w' ⟨rfl, rfl⟩
  rw [HT.out]
  obtain ⟨HBa, HBb, HPa, hsz⟩ := blk_two w 152 #[.int .i64 0, .int .i64 0, .string ⟨#[]⟩, .string ⟨#[]⟩] #[.int .i64 id, .int .i64 0, .string ⟨#[]⟩, .string ⟨#[]⟩]
  go_wp2_with fail
  generalize (w.alloc (.cells #[.int .i64 0, .int .i64 0, .string ⟨#[]⟩, .string ⟨#[]⟩] 152)).alloc (.cells #[.int .i64 id, .int .i64 0, .string ⟨#[]⟩, .string ⟨#[]⟩] 152) = w1 at *
  have HR1 := Lib.hid (HR.out.pure HPa.out)
  refine (f_do_4 g st _ HR1.out).mono ?_; rintro e w2 ⟨rfl, h1, h2⟩
  have HR2 := Lib.hid h1
  have HP2 := Lib.hid ((Keep.of_pure HPa.out).trans h2)
  have HBa2 := Lib.hid (HBa.out.rf h2 HR1.out (by decide))
  have HBb2 := Lib.hid (HBb.out.rf h2 HR1.out (by decide))
  clear h1 h2 hsz
  have a0 := HBa2.out.cell 0
  have a1 := HBa2.out.cell 1
  have a2 := HBa2.out.cell 2
  have a3 := HBa2.out.cell 3
  have b0 := HBb2.out.cell 0
  have b1 := HBb2.out.cell 1
  have b2 := HBb2.out.cell 2
  have b3 := HBb2.out.cell 3
  have fa := HBa2.out.frozen
  have fb := HBb2.out.frozen
  have hlt : w.heap.size < w2.heap.size := HBa2.out.lt
  have hlt2 : w.heap.size + 1 < w2.heap.size := HBb2.out.lt
  simp at a0 a1 a2 a3 b0 b1 b2 b3
  go_wp2_with fail
  refine bodyPost_ret (v := .agg #[.int .i64 id, .int .i64 ((st.num 4).1 : Nat), .string noBytes, .string noBytes]) (by simp [results, Tryz.results146, go_sem, a0, a1, a2, a3, b0, b1, b2, b3, noBytes]) rfl ?_
  unfold QvPost
  rw [HV.out]
  refine ⟨rfl, qv_end HR2.out HP2.out (Nat.le_refl _) HBa2.out HBb2.out ?_⟩
  repeat (with_reducible refine Keep.setCell ?_ (by simp) _)
  exact Keep.refl _ _

set_option maxRecDepth 100000 in
set_option maxHeartbeats 1000000 in
theorem q_value_5 (g : Nat) (st : RS) (id : Int) (w : World) (hR : Rf w g st) (ht : pType id = 5) :
    Calls Tryz.prog 146 #[.pointer (some ⟨g, 0, none⟩), .int .i64 id] w (QvPost g (pValue st id) w) := by
  have HR := Lib.hid hR
  have HT := Lib.hid ht
  have HV : Hid (pValue st id = (⟨id, st.var.1, noBytes, noBytes⟩, st.var.2)) := by show _ = _; unfold pValue; rw [ht]; rfl
  clear hR ht
  go_enter Tryz.func146, Tryz.ntmps146
  go_wp2_with fail
  refine (q_type _ _).mono ?_; rintro e w' ⟨rfl, rfl⟩
  rw [HT.out]
  obtain ⟨HBa, HBb, HPa, hsz⟩ := blk_two w 152 #[.int .i64 0, .int .i64 0, .string ⟨#[]⟩, .string ⟨#[]⟩] #[.int .i64 id, .int .i64 0, .string ⟨#[]⟩, .string ⟨#[]⟩]
  go_wp2_with fail
  generalize (w.alloc (.cells #[.int .i64 0, .int .i64 0, .string ⟨#[]⟩, .string ⟨#[]⟩] 152)).alloc (.cells #[.int .i64 id, .int .i64 0, .string ⟨#[]⟩, .string ⟨#[]⟩] 152) = w1 at *
  have HR1 := Lib.hid (HR.out.pure HPa.out)
  refine (f_do_5 g st _ HR1.out).mono ?_; rintro e w2 ⟨rfl, h1, h2⟩
  have HR2 := Lib.hid h1
  have HP2 := Lib.hid ((Keep.of_pure HPa.out).trans h2)
  have HBa2 := Lib.hid (HBa.out.rf h2 HR1.out (by decide))
  have HBb2 := Lib.hid (HBb.out.rf h2 HR1.out (by decide))
  clear h1 h2 hsz
  have a0 := HBa2.out.cell 0
  have a1 := HBa2.out.cell 1
  have a2 := HBa2.out.cell 2
  have a3 := HBa2.out.cell 3
  have b0 := HBb2.out.cell 0
  have b1 := HBb2.out.cell 1
  have b2 := HBb2.out.cell 2
  have b3 := HBb2.out.cell 3
  have fa := HBa2.out.frozen
  have fb := HBb2.out.frozen
  have hlt : w.heap.size < w2.heap.size := HBa2.out.lt
  have hlt2 : w.heap.size + 1 < w2.heap.size := HBb2.out.lt
  simp at a0 a1 a2 a3 b0 b1 b2 b3
  go_wp2_with fail
  refine bodyPost_ret (v := .agg #[.int .i64 id, .int .i64 (st.var.1 : Nat), .string noBytes, .string noBytes]) (by simp [results, Tryz.results146, go_sem, a0, a1, a2, a3, b0, b1, b2, b3, noBytes]) rfl ?_
  unfold QvPost
  rw [HV.out]
  refine ⟨rfl, qv_end HR2.out HP2.out (Nat.le_refl _) HBa2.out HBb2.out ?_⟩
  repeat (with_reducible refine Keep.setCell ?_ (by simp) _)
  exact Keep.refl _ _

set_option maxRecDepth 100000 in
set_option maxHeartbeats 1000000 in
theorem q_value_7 (g : Nat) (st : RS) (id : Int) (w : World) (hR : Rf w g st) (ht : pType id = 7) :
    Calls Tryz.prog 146 #[.pointer (some ⟨g, 0, none⟩), .int .i64 id] w (QvPost g (pValue st id) w) := by
  have HR := Lib.hid hR
  have HT := Lib.hid ht
  have HV : Hid (pValue st id = (⟨id, 0, st.bin.1, noBytes⟩, st.bin.2)) := by show _ = _; unfold pValue; rw [ht]; rfl
  clear hR ht
  go_enter Tryz.func146, Tryz.ntmps146
  go_wp2_with fail
  refine (q_type _ _).mono ?_; rintro e w' ⟨rfl, rfl⟩
  rw [HT.out]
  obtain ⟨HBa, HBb, HPa, hsz⟩ := blk_two w 152 #[.int .i64 0, .int .i64 0, .string ⟨#[]⟩, .string ⟨#[]⟩] #[.int .i64 id, .int .i64 0, .string ⟨#[]⟩, .string ⟨#[]⟩]
  go_wp2_with fail
  generalize (w.alloc (.cells #[.int .i64 0, .int .i64 0, .string ⟨#[]⟩, .string ⟨#[]⟩] 152)).alloc (.cells #[.int .i64 id, .int .i64 0, .string ⟨#[]⟩, .string ⟨#[]⟩] 152) = w1 at *
  have HR1 := Lib.hid (HR.out.pure HPa.out)
  refine (f_do_7 g st _ HR1.out).mono ?_; rintro e w2 ⟨rfl, h1, h2⟩
  have HR2 := Lib.hid h1
  have HP2 := Lib.hid ((Keep.of_pure HPa.out).trans h2)
  have HBa2 := Lib.hid (HBa.out.rf h2 HR1.out (by decide))
  have HBb2 := Lib.hid (HBb.out.rf h2 HR1.out (by decide))
  clear h1 h2 hsz
  have a0 := HBa2.out.cell 0
  have a1 := HBa2.out.cell 1
  have a2 := HBa2.out.cell 2
  have a3 := HBa2.out.cell 3
  have b0 := HBb2.out.cell 0
  have b1 := HBb2.out.cell 1
  have b2 := HBb2.out.cell 2
  have b3 := HBb2.out.cell 3
  have fa := HBa2.out.frozen
  have fb := HBb2.out.frozen
  have hlt : w.heap.size < w2.heap.size := HBa2.out.lt
  have hlt2 : w.heap.size + 1 < w2.heap.size := HBb2.out.lt
  simp at a0 a1 a2 a3 b0 b1 b2 b3
  go_wp2_with fail
  refine bodyPost_ret (v := .agg #[.int .i64 id, .int .i64 0, .string st.bin.1, .string noBytes]) (by simp [results, Tryz.results146, go_sem, a0, a1, a2, a3, b0, b1, b2, b3, noBytes]) rfl ?_
  unfold QvPost
  rw [HV.out]
  refine ⟨rfl, qv_end HR2.out HP2.out (Nat.le_refl _) HBa2.out HBb2.out ?_⟩
  repeat (with_reducible refine Keep.setCell ?_ (by simp) _)
  exact Keep.refl _ _

set_option maxRecDepth 100000 in
set_option maxHeartbeats 1000000 in
theorem q_value_9 (g : Nat) (st : RS) (id : Int) (w : World) (hR : Rf w g st) (ht : pType id = 9) :
    Calls Tryz.prog 146 #[.pointer (some ⟨g, 0, none⟩), .int .i64 id] w (QvPost g (pValue st id) w) := by
  have HR := Lib.hid hR
  have HT := Lib.hid ht
  have HV : Hid (pValue st id = (⟨id, 0, st.text.1, st.text.2.text.1⟩, st.text.2.text.2)) := by show _ = _; unfold pValue; rw [ht]; rfl
  clear hR ht
  go_enter Tryz.func146, Tryz.ntmps146
  go_wp2_with fail
  refine (q_type _ _).mono ?_; rintro e w' ⟨rfl, rfl⟩
  rw [HT.out]
  obtain ⟨HBa, HBb, HPa, hsz⟩ := blk_two w 152 #[.int .i64 0, .int .i64 0, .string ⟨#[]⟩, .string ⟨#[]⟩] #[.int .i64 id, .int .i64 0, .string ⟨#[]⟩, .string ⟨#[]⟩]
  go_wp2_with fail
  generalize (w.alloc (.cells #[.int .i64 0, .int .i64 0, .string ⟨#[]⟩, .string ⟨#[]⟩] 152)).alloc (.cells #[.int .i64 id, .int .i64 0, .string ⟨#[]⟩, .string ⟨#[]⟩] 152) = w1 at *
  have HR1 := Lib.hid (HR.out.pure HPa.out)
  refine (f_text g st _ HR1.out).mono ?_; rintro e w2 ⟨rfl, h1, h2⟩
  have HR2 := Lib.hid h1
  have HP2 := Lib.hid ((Keep.of_pure HPa.out).trans h2)
  have HBa2 := Lib.hid (HBa.out.rf h2 HR1.out (by decide))
  have HBb2 := Lib.hid (HBb.out.rf h2 HR1.out (by decide))
  clear h1 h2 hsz
  have a0 := HBa2.out.cell 0
  have a1 := HBa2.out.cell 1
  have a2 := HBa2.out.cell 2
  have a3 := HBa2.out.cell 3
  have b0 := HBb2.out.cell 0
  have b1 := HBb2.out.cell 1
  have b2 := HBb2.out.cell 2
  have b3 := HBb2.out.cell 3
  have fa := HBa2.out.frozen
  have fb := HBb2.out.frozen
  have hlt : w.heap.size < w2.heap.size := HBa2.out.lt
  have hlt2 : w.heap.size + 1 < w2.heap.size := HBb2.out.lt
  simp at a0 a1 a2 a3 b0 b1 b2 b3
  go_wp2_with fail
  have HK3 : Hid (Keep (fun i => i = w.heap.size ∨ i = w.heap.size + 1) w2 (w2.setCell ⟨w.heap.size + 1, 2, none⟩ (.string st.text.1))) := (Keep.refl _ _).setCell (.inl (.inr rfl)) _
  have HE3 := Lib.hid (qv_end HR2.out HP2.out (Nat.le_refl _) HBa2.out HBb2.out HK3.out)
  have HBa3 := Lib.hid (HBa2.out.far (p := ⟨w.heap.size + 1, 2, none⟩) (by simp) (.string st.text.1))
  have HBb3 := Lib.hid (HBb2.out.set_ 2 (.string st.text.1))
  generalize w2.setCell ⟨w.heap.size + 1, 2, none⟩ (.string st.text.1) = w3 at *
  clear a0 a1 a2 a3 b0 b1 b2 b3 fa fb hlt hlt2
  refine (f_text g _ _ HE3.out.1).mono ?_; rintro e w4 ⟨rfl, h1, h2⟩
  have HR4 := Lib.hid h1
  have HP4 := Lib.hid (HE3.out.2.trans h2)
  have HBa4 := Lib.hid (HBa3.out.rf h2 HE3.out.1 (by decide))
  have HBb4 := Lib.hid (HBb3.out.rf h2 HE3.out.1 (by decide))
  clear h1 h2
  have a0 := HBa4.out.cell 0
  have a1 := HBa4.out.cell 1
  have a2 := HBa4.out.cell 2
  have a3 := HBa4.out.cell 3
  have b0 := HBb4.out.cell 0
  have b1 := HBb4.out.cell 1
  have b2 := HBb4.out.cell 2
  have b3 := HBb4.out.cell 3
  have fa := HBa4.out.frozen
  have fb := HBb4.out.frozen
  have hlt : w.heap.size < w4.heap.size := HBa4.out.lt
  have hlt2 : w.heap.size + 1 < w4.heap.size := HBb4.out.lt
  simp at a0 a1 a2 a3 b0 b1 b2 b3
  go_wp2_with fail
  refine bodyPost_ret (v := .agg #[.int .i64 id, .int .i64 0, .string st.text.1, .string st.text.2.text.1]) (by simp [results, Tryz.results146, go_sem, a0, a1, a2, a3, b0, b1, b2, b3, noBytes]) rfl ?_
  unfold QvPost
  rw [HV.out]
  refine ⟨rfl, qv_end HR4.out HP4.out (Nat.le_refl _) HBa4.out HBb4.out ?_⟩
  repeat (with_reducible refine Keep.setCell ?_ (by simp) _)
  exact Keep.refl _ _

set_option maxRecDepth 100000 in
set_option maxHeartbeats 1000000 in
theorem q_value_6 (g : Nat) (st : RS) (id : Int) (w : World) (hR : Rf w g st) (ht : pType id = 6) :
    Calls Tryz.prog 146 #[.pointer (some ⟨g, 0, none⟩), .int .i64 id] w (QvPost g (pValue st id) w) := by
  have HR := Lib.hid hR
  have HT := Lib.hid ht
  have HV : Hid (pValue st id = (⟨id, 0, st.text.1, noBytes⟩, st.text.2)) := by show _ = _; unfold pValue; rw [ht]; rfl
  clear hR ht
  go_enter Tryz.func146, Tryz.ntmps146
  go_wp2_with fail
  refine (q_type _ _).mono ?_; rintro e w' ⟨rfl, rfl⟩
  rw [HT.out]
  obtain ⟨HBa, HBb, HPa, hsz⟩ := blk_two w 152 #[.int .i64 0, .int .i64 0, .string ⟨#[]⟩, .string ⟨#[]⟩] #[.int .i64 id, .int .i64 0, .string ⟨#[]⟩, .string ⟨#[]⟩]
  go_wp2_with fail
  generalize (w.alloc (.cells #[.int .i64 0, .int .i64 0, .string ⟨#[]⟩, .string ⟨#[]⟩] 152)).alloc (.cells #[.int .i64 id, .int .i64 0, .string ⟨#[]⟩, .string ⟨#[]⟩] 152) = w1 at *
  have HR1 := Lib.hid (HR.out.pure HPa.out)
  refine (f_do_6 g st _ HR1.out).mono ?_; rintro e w2 ⟨rfl, h1, h2⟩
  have HR2 := Lib.hid h1
  have HP2 := Lib.hid ((Keep.of_pure HPa.out).trans h2)
  have HBa2 := Lib.hid (HBa.out.rf h2 HR1.out (by decide))
  have HBb2 := Lib.hid (HBb.out.rf h2 HR1.out (by decide))
  clear h1 h2 hsz
  have a0 := HBa2.out.cell 0
  have a1 := HBa2.out.cell 1
  have a2 := HBa2.out.cell 2
  have a3 := HBa2.out.cell 3
  have b0 := HBb2.out.cell 0
  have b1 := HBb2.out.cell 1
  have b2 := HBb2.out.cell 2
  have b3 := HBb2.out.cell 3
  have fa := HBa2.out.frozen
  have fb := HBb2.out.frozen
  have hlt : w.heap.size < w2.heap.size := HBa2.out.lt
  have hlt2 : w.heap.size + 1 < w2.heap.size := HBb2.out.lt
  simp at a0 a1 a2 a3 b0 b1 b2 b3
  go_wp2_with fail
  refine bodyPost_ret (v := .agg #[.int .i64 id, .int .i64 0, .string st.text.1, .string noBytes]) (by simp [results, Tryz.results146, go_sem, a0, a1, a2, a3, b0, b1, b2, b3, noBytes]) rfl ?_
  unfold QvPost
  rw [HV.out]
  refine ⟨rfl, qv_end HR2.out HP2.out (Nat.le_refl _) HBa2.out HBb2.out ?_⟩
  repeat (with_reducible refine Keep.setCell ?_ (by simp) _)
  exact Keep.refl _ _

theorem q_value (g : Nat) (st : RS) (id : Int) (w : World) (hR : Rf w g st) (h0 : pType id ≠ 0) :
    Calls Tryz.prog 146 #[.pointer (some ⟨g, 0, none⟩), .int .i64 id] w (QvPost g (pValue st id) w) := by
  rcases pType_cases id with h | h | h | h | h | h | h | h
  · exact q_value_1 g st id w hR h
  · exact q_value_2 g st id w hR h
  · exact q_value_4 g st id w hR h
  · exact q_value_5 g st id w hR h
  · exact q_value_7 g st id w hR h
  · exact q_value_9 g st id w hR h
  · exact q_value_6 g st id w hR h
  · exact absurd h h0
end Go.Proofs.YthokkjdolcfhcaaGreatDoor

/- Packages reason and prop: what hangs on a number alone. Package reason: groups, Allowed. Package reason: Allowed. Package prop: the grounds on which a property may not stand. -/
import Derived.Test.YthokkjdolcfhcaaGreatDoorMb
import Derived.Test.YthokkjdolcfhcaaGreatDoorMa

set_option linter.unusedVariables false
namespace Go.Proofs.YthokkjdolcfhcaaGreatDoor
open Go.RowKit

set_option maxRecDepth 100000 in
set_option maxHeartbeats 2000000 in
theorem p_type (id : Int) (w : World) :
    Calls Tryz.prog 214 #[.int .i64 id] w fun e w' => e = .returned (.int .i64 (pType id)) ∧ w = w' := by
  go_enter Tryz.func214, Tryz.ntmps214
  go_wp2
  all_goals
    go_ret
    exact ⟨ret_int (by simp_all [pType]), rfl⟩

def IdxPost (x : Int) (l : List Int) (w : World) (e : Ending) (w' : World) : Prop := ∃ r : Int, e = .returned (.int .i64 r) ∧ (0 ≤ r ↔ x ∈ l) ∧ w = w'
set_option maxRecDepth 100000 in
theorem sl_index (A : Option Addr) (c B : Nat) (l : List Int) (x : Int) (w : World) (hr : Reads w B 1 A l.length (ints l)) (hl : l.length ≤ 140737488351232) :
    Calls Tryz.prog 255 #[.slice A l.length c, .int .i64 x] w (IdxPost x l w) := by
  have HRR := Lib.hid hr
  clear hr
  go_enter Tryz.func255, Tryz.ntmps255
  go_wp2_with fail
  go_loop [8] (fun i => ∃ k : Nat, k ≤ l.length ∧ i = .int .i64 k ∧ Hid (∀ j, j < k → l.getD j 0 ≠ x)) (fun i => l.length - (intOf i).toNat)
  case atStart => exact ⟨0, by omega, rfl, fun j hj => by omega⟩
  case round =>
    obtain ⟨k, hk, rfl, HN⟩ := hrel
    by_cases hlt : k < l.length
    · obtain ⟨ad, u, rfl, _, hx, hc⟩ := HRR.out.at_ hlt
      rw [ints_at l k hlt] at hx
      injection hx with hx
      subst hx
      by_cases he : l.getD k 0 = x
      · have h1 : (x == l.getD k 0) = true := by rw [beq_iff_eq]; exact he.symm
        have HM : Hid (x ∈ l) := by
          show x ∈ l
          rw [← he]
          simp [List.getD, hlt]
        clear he
        generalize l.getD k 0 = y at *
        go_wp2_with fail
        go_ret
        exact ⟨_, rfl, ⟨fun _ => HM.out, fun _ => by omega⟩, rfl⟩
      · have h1 : (x == l.getD k 0) = false := by simp; exact fun h => he h.symm
        have HM : Hid (∀ j, j < k + 1 → l.getD j 0 ≠ x) := fun j hj => by
          rcases Nat.lt_or_ge j k with h | h
          · exact HN.out j h
          · obtain rfl : j = k := by omega
            exact he
        clear he
        generalize l.getD k 0 = y at *
        go_wp2_with fail
        go_round
        case rel => exact ⟨k + 1, by omega, by go_num, HM⟩
        case measure => simp [intOf]; omega
    · obtain rfl : k = l.length := by omega
      have HM : Hid (x ∉ l) := by
        intro hm
        obtain ⟨j, hj, he⟩ := List.getElem_of_mem hm
        exact HN.out j hj (by simp [List.getD, hj, he])
      clear hlt
      go_wp2_with fail
      go_ret
      exact ⟨_, rfl, ⟨fun h => absurd h (by decide), fun h => absurd h HM.out⟩, rfl⟩

theorem sl_contains (A : Option Addr) (c B : Nat) (l : List Int) (x : Int) (w : World) (hr : Reads w B 1 A l.length (ints l)) (hl : l.length ≤ 140737488351232) :
    Calls Tryz.prog 250 #[.slice A l.length c, .int .i64 x] w fun e w' => e = .returned (.bool (decide (x ∈ l))) ∧ w = w' := by
  have HC := Lib.hid (sl_index A c B l x w hr hl)
  clear hr
  go_enter Tryz.func250, Tryz.ntmps250
  go_wp2_with fail
  refine HC.out.mono ?_
  rintro e w' ⟨r, rfl, hri, rfl⟩
  have HI := Lib.hid hri
  clear hri
  go_wp2_with fail
  go_ret
  refine ⟨?_, rfl⟩
  have h := HI.out
  by_cases hx : x ∈ l <;> simp [hx] at h ⊢ <;> omega

set_option maxRecDepth 100000 in
set_option maxHeartbeats 4000000 in
theorem p_allowed (id place : Int) (w : World) :
    Calls Tryz.prog 239 #[.int .i64 id, .int .i64 place] w fun e w' => e = .returned (.bool (pAllowed id place)) ∧ Pure w w' := by
  go_enter Tryz.func239, Tryz.ntmps239
  go_wp2_with (go_at_call 250; refine (sl_contains _ _ _ [2, 4, 5, 6, 7, 9, 11, 14, 15] _ _ (Reads.of_own (World.ownsRow_lit (base := 0) w #[.int .i64 2, .int .i64 4, .int .i64 5, .int .i64 6, .int .i64 7, .int .i64 9, .int .i64 11, .int .i64 14, .int .i64 15] 9 (Nat.zero_le _) (by decide) rfl)) (by decide)).mono ?_; rintro e w' ⟨rfl, rfl⟩)
  all_goals
    go_ret
    refine ⟨congrArg (fun b => Ending.returned (Value.bool b)) ?_, by first | exact Keep.refl _ _ | exact (Keep.refl _ _).alloc _⟩
    rw [Bool.eq_iff_iff]
    (first | (simp_all [pAllowed, pPlaces]; done) | (simp_all [pAllowed, pPlaces]; omega))

set_option maxRecDepth 100000 in
set_option maxHeartbeats 4000000 in
theorem p_numbered (p : Pr) (w : World) :
    Calls Tryz.prog 242 #[.agg #[.int .i64 p.id, .int .i64 p.n, .string p.s, .string p.v]] w fun e w' => e = .returned (.bool (pNumbered p.id p.n)) ∧ Pure w w' := by
  obtain ⟨id, n, s, v⟩ := p
  go_enter Tryz.func242, Tryz.ntmps242
  go_wp2_with fail
  all_goals
    go_ret
    refine ⟨congrArg (fun b => Ending.returned (Value.bool b)) ?_, by first | exact Keep.refl _ _ | exact (Keep.refl _ _).alloc _⟩
    rw [Bool.eq_iff_iff]
    (first | (simp_all [pNumbered]; done) | (simp_all [pNumbered]; omega))

set_option maxRecDepth 100000 in
theorem rs_group (k : Int) (w : World) :
    Calls Tryz.prog 219 #[.int .i64 k] w fun e w' => e = .returned (.int .i64 (rGroup k : Nat)) ∧ w = w' := by
  go_enter Tryz.func219, Tryz.ntmps219
  go_wp2
  all_goals
    go_ret
    exact ⟨ret_int (by simp_all [rGroup]), rfl⟩
set_option maxRecDepth 100000 in
theorem rs_good (k : Int) (w : World) :
    Calls Tryz.prog 244 #[.int .i64 k] w fun e w' => e = .returned (.int .i64 (rGood k : Nat)) ∧ w = w' := by
  go_enter Tryz.func244, Tryz.ntmps244
  go_wp2
  all_goals
    go_ret
    exact ⟨ret_int (by simp_all [rGood]), rfl⟩
end Go.Proofs.YthokkjdolcfhcaaGreatDoor

set_option linter.unusedVariables false
namespace Go.Proofs.YthokkjdolcfhcaaGreatDoor
open Go.RowKit

set_option maxRecDepth 100000 in
set_option maxHeartbeats 4000000 in
theorem rs_groups (c : Int) (w : World) :
    Calls Tryz.prog 218 #[.int .i64 c] w fun e w' => e = .returned (.int .i64 (rGroups c : Nat)) ∧ w = w' := by
  go_enter Tryz.func218, Tryz.ntmps218
  go_wp2_with (go_at_call 244; refine (rs_good _ _).mono ?_; rintro e w' ⟨rfl, rfl⟩)
  all_goals
    go_ret
    refine ⟨ret_int ?_, rfl⟩
    (first | (simp_all [rGroups]; done) | (simp_all [rGroups]; rfl))

end Go.Proofs.YthokkjdolcfhcaaGreatDoor

set_option linter.unusedVariables false
namespace Go.Proofs.YthokkjdolcfhcaaGreatDoor
open Go.RowKit

theorem ite_lt {p : Prop} [Decidable p] {a b n : Nat} (ha : a < n) (hb : b < n) : (if p then a else b) < n := by split <;> assumption
theorem rGroups_lt (c : Int) : rGroups c < 128 := by
  unfold rGroups rGood
  repeat' (refine ite_lt (by decide) ?_)
  decide
theorem rGroup_lt (c : Int) : rGroup c < 128 := by
  unfold rGroup
  repeat' (refine ite_lt (by decide) ?_)
  decide
theorem rs_allowed (kind code : Int) (w : World) :
    Calls Tryz.prog 167 #[.int .i64 kind, .int .i64 code] w fun e w' => e = .returned (.bool (rAllowed kind code)) ∧ w = w' := by
  have h1 := rGroups_lt code
  have h2 := rGroup_lt kind
  have HA : Hid (bits .and .i64 ((rGroups code : Nat) : Int) ((rGroup kind : Nat) : Int) = ((rGroups code &&& rGroup kind : Nat) : Int)) := i64_and_nat _ _ (by omega) (by omega)
  have HR : Hid (rAllowed kind code = ((rGroups code &&& rGroup kind) != 0)) := rfl
  go_enter Tryz.func167, Tryz.ntmps167
  go_wp2_with fail
  refine (rs_groups _ _).mono ?_; rintro e w' ⟨rfl, rfl⟩
  go_wp2_with fail
  refine (rs_group _ _).mono ?_; rintro e w' ⟨rfl, rfl⟩
  generalize rGroups code = x at *
  generalize rGroup kind = y at *
  go_wp2_with fail
  go_ret
  refine ⟨?_, rfl⟩
  rw [HR.out, HA.out]
  have : (((x &&& y : Nat) : Int) != 0) = ((x &&& y) != 0) := by rw [Bool.eq_iff_iff]; simp
  first | rw [← this] | (simp only [this]) | skip
  rfl
end Go.Proofs.YthokkjdolcfhcaaGreatDoor

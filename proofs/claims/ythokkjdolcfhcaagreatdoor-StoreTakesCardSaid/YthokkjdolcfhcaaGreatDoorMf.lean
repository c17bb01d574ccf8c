/- Package prop: the grounds on which a property may not stand; its value. Package prop: what a property has, read. Package prop: one property, read behind others. Plain: reading goes forth; the loop of prop.Read. Package prop: Read by contract. -/
import Derived.Test.YthokkjdolcfhcaaGreatDoorMe
import Derived.Test.YthokkjdolcfhcaaGreatDoorMd
import Derived.Deep.DeepCutAuto
import Derived.OwnWalk
import Derived.Test.YthokkjdolcfhcaaGreatDoorMa
import Derived.Maps.AppendAt

set_option linter.unusedVariables false
namespace Go.Proofs.YthokkjdolcfhcaaGreatDoor
open Go.RowKit

def pOften (id place : Int) : Bool := decide (id = 38 ∨ (id = 11 ∧ place = 3))
def pGround (place : Int) (ahead : List Pr) (id at_ : Int) : Option Flt :=
  if 64 ≤ ahead.length then some ⟨4, 149, at_⟩
  else if pType id = 0 ∨ pAllowed id place = false then some ⟨2, 129, at_⟩
  else if pOften id place = false ∧ ∃ p ∈ ahead, p.id = id then some ⟨3, 130, at_⟩
  else none
def pBad (p : Pr) (at_ : Int) : Option Flt := if pNumbered p.id p.n then none else some ⟨3, 130, at_⟩

theorem add_field (a : Addr) (n j : Nat) (hj : 0 < j) : a.add (n + j) = ⟨(a.add n).block, (a.add n).off + j, none⟩ := by
  unfold Addr.add
  by_cases hn : n = 0
  · subst hn; simp; omega
  · rw [if_neg (by simp; omega), if_neg (by simpa using hn)]; simp; omega
theorem Reads.pr {w : World} {B : Nat} {A : Option Addr} {l : List Pr} (h : Reads w B 4 A l.length (prRow l)) (k : Nat) (hk : k < l.length) :
    ∃ ad, A = some ad ∧ ad.block < B ∧ w.cell? (ad.add (k * 4)) = some (.int .i64 l[k].id) ∧ w.cell? ⟨(ad.add (k * 4)).block, (ad.add (k * 4)).off + 1, none⟩ = some (.int .i64 l[k].n) ∧
      w.cell? ⟨(ad.add (k * 4)).block, (ad.add (k * 4)).off + 2, none⟩ = some (.string l[k].s) ∧ w.cell? ⟨(ad.add (k * 4)).block, (ad.add (k * 4)).off + 3, none⟩ = some (.string l[k].v) := by
  obtain ⟨ad, e, hb, hc⟩ := h.2 (by omega)
  refine ⟨ad, e, hb, ?_, ?_, ?_, ?_⟩
  · have := hc (k * 4 + 0) _ ((prRow_at l k 0 hk (by omega)).trans rfl)
    simpa using this
  · rw [← add_field _ _ 1 (by omega)]; exact hc _ _ ((prRow_at l k 1 hk (by omega)).trans rfl)
  · rw [← add_field _ _ 2 (by omega)]; exact hc _ _ ((prRow_at l k 2 hk (by omega)).trans rfl)
  · rw [← add_field _ _ 3 (by omega)]; exact hc _ _ ((prRow_at l k 3 hk (by omega)).trans rfl)

theorem p_same_id (p : Pr) (g : Nat) (id : Int) (w : World) (hc : w.cell? ⟨g, 0, none⟩ = some (.int .i64 id)) :
    Calls Tryz.prog 241 #[.agg #[.int .i64 p.id, .int .i64 p.n, .string p.s, .string p.v], .pointer (some ⟨g, 0, none⟩)] w fun e w' => e = .returned (.bool (p.id == id)) ∧ Pure w w' := by
  have hlt := World.block_lt_of_cell? w _ hc
  simp only at hlt
  go_enter Tryz.func241, Tryz.ntmps241
  go_wp2_with fail
  go_ret
  exact ⟨rfl, (Keep.refl _ _).alloc _⟩

def FindPost (l : List Pr) (id : Int) (w : World) (e : Ending) (w' : World) : Prop := ∃ r : Int, e = .returned (.int .i64 r) ∧ (0 ≤ r ↔ ∃ p ∈ l, p.id = id) ∧ Pure w w'
set_option maxRecDepth 100000 in
set_option maxHeartbeats 1000000 in
theorem sl_find (A : Option Addr) (c B : Nat) (l : List Pr) (g : Nat) (id : Int) (w : World) (hr : Reads w B 4 A l.length (prRow l)) (hB : B ≤ w.heap.size) (hl : l.length ≤ 140737488351232) (hc : w.cell? ⟨g, 0, none⟩ = some (.int .i64 id)) :
    Calls Tryz.prog 251 #[.slice A l.length c, .func (Fn.func 241) #[] #[.pointer (some ⟨g, 0, none⟩)]] w (FindPost l id w) := by
  have HRR := Lib.hid hr
  have hlt := World.block_lt_of_cell? w _ hc
  have HC := Lib.hid hc
  simp only at hlt
  clear hr hc
  go_enter Tryz.func251, Tryz.ntmps251
  go_wp2_with fail
  go_loopw [8] (fun i wr => ∃ k : Nat, k ≤ l.length ∧ i = .int .i64 k ∧ Hid (∀ j (hj : j < l.length), j < k → l[j].id ≠ id) ∧ Hid (Pure w wr)) (fun i _ => l.length - (intOf i).toNat)
  case atStart => exact ⟨0, by omega, rfl, fun j hj hk => by omega, Keep.refl _ _⟩
  case round =>
    obtain ⟨k, hk, rfl, HN, HP⟩ := hrel
    by_cases hlt2 : k < l.length
    · obtain ⟨ad, rfl, _, d0, d1, d2, d3⟩ := (HRR.out.pure HP.out hB).pr k hlt2
      have HCW : Hid (wr.cell? ⟨g, 0, none⟩ = some (.int .i64 id)) := (HP.out.cell (p := ⟨g, 0, none⟩) hlt (fun h => h)).trans HC.out
      go_wp2_with fail
      refine (p_same_id l[k] g id _ HCW.out).mono ?_; rintro e w2 ⟨rfl, hP2⟩
      have HP2 := Lib.hid (HP.out.trans hP2)
      clear hP2
      by_cases he : l[k].id = id
      · have h1 : (l[k].id == id) = true := by simp [he]
        have HM : Hid (∃ p ∈ l, p.id = id) := ⟨l[k], List.getElem_mem _, he⟩
        clear he
        rw [h1]
        clear h1
        go_wp2_with fail
        go_ret
        exact ⟨_, rfl, ⟨fun _ => HM.out, fun _ => by omega⟩, HP2.out⟩
      · have h1 : (l[k].id == id) = false := by simp [he]
        have HM : Hid (∀ j (hj : j < l.length), j < k + 1 → l[j].id ≠ id) := fun j hj hjk => by
          rcases Nat.lt_or_ge j k with h | h
          · exact HN.out j hj h
          · obtain rfl : j = k := by omega
            exact he
        clear he
        rw [h1]
        clear h1
        go_wp2_with fail
        go_roundw
        case rel => exact ⟨k + 1, by omega, by go_num, HM, HP2⟩
        case measure => simp [intOf]; omega
    · obtain rfl : k = l.length := by omega
      have HM : Hid (¬ ∃ p ∈ l, p.id = id) := by
        rintro ⟨p, hm, he⟩
        obtain ⟨j, hj, hje⟩ := List.getElem_of_mem hm
        exact HN.out j hj hj (by rw [hje]; exact he)
      clear hlt2
      go_wp2_with fail
      go_ret
      exact ⟨_, rfl, ⟨fun h => absurd h (by decide), fun h => absurd h HM.out⟩, HP.out⟩

theorem sl_has (A : Option Addr) (c B : Nat) (l : List Pr) (g : Nat) (id : Int) (w : World) (hr : Reads w B 4 A l.length (prRow l)) (hB : B ≤ w.heap.size) (hl : l.length ≤ 140737488351232) (hc : w.cell? ⟨g, 0, none⟩ = some (.int .i64 id)) :
    Calls Tryz.prog 240 #[.slice A l.length c, .func (Fn.func 241) #[] #[.pointer (some ⟨g, 0, none⟩)]] w fun e w' => ∃ x : Bool, e = .returned (.bool x) ∧ (x = true ↔ ∃ p ∈ l, p.id = id) ∧ Pure w w' := by
  have HC := Lib.hid (sl_find A c B l g id w hr hB hl hc)
  clear hr hc
  go_enter Tryz.func240, Tryz.ntmps240
  go_wp2_with fail
  refine HC.out.mono ?_
  rintro e w' ⟨r, rfl, hri, hP⟩
  have HI := Lib.hid hri
  have HP := Lib.hid hP
  clear hri hP
  go_wp2_with fail
  go_ret
  exact ⟨_, rfl, by rw [← HI.out]; simp, HP.out⟩

/-- an error just made -/
theorem er_new {σ : Nat → Addr} {w W : World} (k : Nat) (r a : Int) (hP : Pure w W) (h1 : 1 ≤ k) (h7 : k ≤ 7) :
    Er σ (W.alloc (.cells #[.int .i64 r, .int .i64 a, .iface 256 (.pointer (some (σ k)))] 150)) (.iface 148 (.pointer (some ⟨W.heap.size, 0, none⟩))) (some ⟨k, r, a⟩) ∧
      Pure w (W.alloc (.cells #[.int .i64 r, .int .i64 a, .iface 256 (.pointer (some (σ k)))] 150)) :=
  ⟨⟨flt_ok h1 h7, _, rfl, .base _ _ _ _ (Blk.new _ _ _)⟩, hP.alloc _⟩

def ErPost (σ : Nat → Addr) (f : Option Flt) (w : World) (e : Ending) (w' : World) : Prop := ∃ v, e = .returned v ∧ Er σ w' v f ∧ Pure w w'

set_option maxRecDepth 100000 in
set_option maxHeartbeats 1000000 in
theorem p_ground (b : Nat) (σ : Nat → Addr) (place : Int) (A : Option Addr) (c B : Nat) (l : List Pr) (id at_ : Int) (w : World) (hG : Gl b σ w) (hr : Reads w B 4 A l.length (prRow l)) (hB : B ≤ w.heap.size) (hl0 : l.length ≤ 140737488351232) :
    Calls Tryz.prog 212 #[.int .i64 place, .slice A l.length c, .int .i64 id, .int .i64 at_] w (ErPost σ (pGround place l id at_) w) := by
  have HG := Lib.hid hG
  have HRR := Lib.hid hr
  clear hG hr
  go_enter Tryz.func212, Tryz.ntmps212
  go_upto_region 1 with fail
  go_cut [9] (fun s9 wx => s9 = .bool (pOften id place) ∧ Hid (wx = w.alloc (.cells #[.int .i64 id] 3)))
  case first =>
    have HO : Hid (pOften id place = ((id == 38) || ((id == 11) && (place == 3)))) := by
      show _ = _
      rw [Bool.eq_iff_iff]
      simp [pOften]
    cases h1 : (id == 38) <;> cases h2 : (id == 11) <;> cases h3 : (place == 3)
    all_goals
      go_wp2_with fail
      go_meet
      exact ⟨congrArg Value.bool (by rw [HO.out, h1, h2, h3]; rfl), rfl⟩
  case rest =>
    obtain ⟨rfl, HW⟩ := hcut
    obtain ⟨c6, HP, HGW, hsz⟩ : wc.cell? ⟨w.heap.size, 0, none⟩ = some (.int .i64 id) ∧ Hid (Pure w wc) ∧ Hid (Gl b σ wc) ∧ w.heap.size < wc.heap.size := by
      rw [HW.out]
      exact ⟨by simp, (Keep.refl _ w).alloc _, HG.out.alloc _, by simp⟩
    clear HW HG
    by_cases hl : 64 ≤ l.length
    · have HV : Hid (pGround place l id at_ = some ⟨4, 149, at_⟩) := if_pos hl
      have c4 := HGW.out.c4
      generalize pOften id place = o at *
      go_wp2_with (go_at_call 68; refine (new_any σ 4 _ _ _ (by omega) (by omega)).mono ?_; rintro e w' ⟨g', rfl, rfl, rfl⟩)
      go_ret
      have h := er_new (σ := σ) 4 149 at_ HP.out (by omega) (by omega)
      exact ⟨_, rfl, by rw [HV.out]; exact h.1, h.2⟩
    have hl2 : l.length < 64 := by omega
    have HL := Lib.hid hl
    clear hl
    by_cases ht : pType id = 0
    · have HV : Hid (pGround place l id at_ = some ⟨2, 129, at_⟩) := by show _ = _; unfold pGround; rw [if_neg HL.out, if_pos (.inl ht)]
      have c2 := HGW.out.c2
      have HT := Lib.hid ht
      clear ht
      generalize pOften id place = o at *
      go_wp2_with (first | (go_at_call 68; refine (new_any σ 2 _ _ _ (by omega) (by omega)).mono ?_; rintro e w' ⟨g', rfl, rfl, rfl⟩) | (go_at_call 214; refine (p_type _ _).mono ?_; rintro e w' ⟨rfl, rfl⟩; rw [HT.out]))
      go_ret
      have h := er_new (σ := σ) 2 129 at_ HP.out (by omega) (by omega)
      exact ⟨_, rfl, by rw [HV.out]; exact h.1, h.2⟩
    have ht0 : (pType id == 0) = false := by simpa using ht
    have HT := Lib.hid ht
    clear ht
    by_cases ha : pAllowed id place = false
    · have HV : Hid (pGround place l id at_ = some ⟨2, 129, at_⟩) := by show _ = _; unfold pGround; rw [if_neg HL.out, if_pos (.inr ha)]
      have HA := Lib.hid ha
      clear ha
      generalize pOften id place = o at *
      go_wp2_with fail
      refine (p_type _ _).mono ?_; rintro e w' ⟨rfl, rfl⟩
      generalize pType id = ty at *
      go_wp2_with fail
      refine (p_allowed _ _ _).mono ?_; rintro e w1 ⟨rfl, hP⟩
      rw [HA.out]
      have c2 := (HGW.out.pure hP).c2
      have HP1 := Lib.hid (HP.out.trans hP)
      clear hP
      go_wp2_with (go_at_call 68; refine (new_any σ 2 _ _ _ (by omega) (by omega)).mono ?_; rintro e w' ⟨g', rfl, rfl, rfl⟩)
      go_ret
      have h := er_new (σ := σ) 2 129 at_ HP1.out (by omega) (by omega)
      exact ⟨_, rfl, by rw [HV.out]; exact h.1, h.2⟩
    have HA : Hid (pAllowed id place = true) := by show _ = _; simpa using ha
    have HTA : Hid (¬ (pType id = 0 ∨ pAllowed id place = false)) := by rintro (h | h); exact HT.out h; exact ha h
    clear ha
    by_cases ho : pOften id place = true
    · have HV : Hid (pGround place l id at_ = none) := by
        show _ = _; unfold pGround; rw [if_neg HL.out, if_neg HTA.out, if_neg (by simp [ho])]
      rw [ho]
      clear ho HTA
      go_wp2_with fail
      refine (p_type _ _).mono ?_; rintro e w' ⟨rfl, rfl⟩
      generalize pType id = ty at *
      go_wp2_with fail
      refine (p_allowed _ _ _).mono ?_; rintro e w1 ⟨rfl, hP⟩
      rw [HA.out]
      have HP1 := Lib.hid (HP.out.trans hP)
      clear hP
      go_wp2_with fail
      go_ret
      exact ⟨_, rfl, by rw [HV.out]; rfl, HP1.out⟩
    · have ho2 : pOften id place = false := by simpa using ho
      have HO := Lib.hid ho2
      rw [ho2]
      clear ho ho2
      go_wp2_with fail
      refine (p_type _ _).mono ?_; rintro e w' ⟨rfl, rfl⟩
      have HTY : Hid (pType id = pType id) := rfl
      have HGR : Hid (pGround place l id at_ = if (∃ p ∈ l, p.id = id) then some ⟨3, 130, at_⟩ else none) := by
        show _ = _
        unfold pGround
        rw [if_neg HL.out, if_neg HTA.out]
        by_cases hx : ∃ p ∈ l, p.id = id
        · rw [if_pos ⟨HO.out, hx⟩, if_pos hx]
        · rw [if_neg (fun h => hx h.2), if_neg hx]
      clear HTA HT
      generalize pType id = ty at *
      go_wp2_with fail
      refine (p_allowed _ _ _).mono ?_; rintro e w1 ⟨rfl, hP⟩
      rw [HA.out]
      have HP1 := Lib.hid (HP.out.trans hP)
      have HG1 := Lib.hid (HGW.out.pure hP)
      have c7 : w1.cell? ⟨w.heap.size, 0, none⟩ = some (.int .i64 id) := by
        rw [hP.cell (p := ⟨w.heap.size, 0, none⟩) hsz (fun h => h)]; exact c6
      have hs1 := hP.size
      clear hP
      go_wp2_with fail
      refine (sl_has A c B l w.heap.size id _ (HRR.out.pure HP1.out hB) (by omega) hl0 c7).mono ?_
      rintro e w2 ⟨x, rfl, hx, hP⟩
      have HP2 := Lib.hid (HP1.out.trans hP)
      have HG2 := Lib.hid (HG1.out.pure hP)
      have HX := Lib.hid hx
      clear hx hP
      cases x with
      | true =>
        have HV : Hid (pGround place l id at_ = some ⟨3, 130, at_⟩) := by show _ = _; rw [HGR.out, if_pos (HX.out.1 rfl)]
        have c3 := HG2.out.c3
        go_wp2_with (go_at_call 68; refine (new_any σ 3 _ _ _ (by omega) (by omega)).mono ?_; rintro e w' ⟨g', rfl, rfl, rfl⟩)
        go_ret
        have h := er_new (σ := σ) 3 130 at_ HP2.out (by omega) (by omega)
        exact ⟨_, rfl, by rw [HV.out]; exact h.1, h.2⟩
      | false =>
        have HV : Hid (pGround place l id at_ = none) := by show _ = _; rw [HGR.out, if_neg (fun h => by have := HX.out.2 h; cases this)]
        go_wp2_with fail
        go_ret
        exact ⟨_, rfl, by rw [HV.out]; rfl, HP2.out⟩

theorem p_bad (b : Nat) (σ : Nat → Addr) (p : Pr) (at_ : Int) (w : World) (hG : Gl b σ w) :
    Calls Tryz.prog 213 #[.agg #[.int .i64 p.id, .int .i64 p.n, .string p.s, .string p.v], .int .i64 at_] w (ErPost σ (pBad p at_) w) := by
  have HG := Lib.hid (hG.alloc (.cells #[.int .i64 p.id, .int .i64 p.n, .string p.s, .string p.v] 152))
  clear hG
  go_enter Tryz.func213, Tryz.ntmps213
  go_wp2_with fail
  refine (p_numbered p _).mono ?_; rintro e w1 ⟨rfl, hP⟩
  have HP1 := Lib.hid (((Keep.refl (fun _ => False) w).alloc _).trans hP)
  have HG1 := Lib.hid (HG.out.pure hP)
  clear hP
  cases hn : pNumbered p.id p.n with
  | true =>
    have HV : Hid (pBad p at_ = none) := by show _ = _; unfold pBad; rw [hn]; rfl
    clear hn
    go_wp2_with fail
    go_ret
    exact ⟨_, rfl, by rw [HV.out]; rfl, HP1.out⟩
  | false =>
    have HV : Hid (pBad p at_ = some ⟨3, 130, at_⟩) := by show _ = _; unfold pBad; rw [hn]; rfl
    have c3 := HG1.out.c3
    clear hn
    go_wp2_with (go_at_call 68; refine (new_any σ 3 _ _ _ (by omega) (by omega)).mono ?_; rintro e w' ⟨g', rfl, rfl, rfl⟩)
    go_ret
    have h := er_new (σ := σ) 3 130 at_ HP1.out (by omega) (by omega)
    exact ⟨_, rfl, by rw [HV.out]; exact h.1, h.2⟩
end Go.Proofs.YthokkjdolcfhcaaGreatDoor

set_option linter.unusedVariables false
namespace Go.Proofs.YthokkjdolcfhcaaGreatDoor
open Go.RowKit

def pValue (st : RS) (id : Int) : Pr × RS :=
  if pType id = 1 then (⟨id, (st.num 1).1, noBytes, noBytes⟩, (st.num 1).2)
  else if pType id = 2 then (⟨id, (st.num 2).1, noBytes, noBytes⟩, (st.num 2).2)
  else if pType id = 4 then (⟨id, (st.num 4).1, noBytes, noBytes⟩, (st.num 4).2)
  else if pType id = 5 then (⟨id, st.var.1, noBytes, noBytes⟩, st.var.2)
  else if pType id = 7 then (⟨id, 0, st.bin.1, noBytes⟩, st.bin.2)
  else if pType id = 9 then (⟨id, 0, st.text.1, st.text.2.text.1⟩, st.text.2.text.2)
  else if pType id = 6 then (⟨id, 0, st.text.1, noBytes⟩, st.text.2)
  else (⟨id, 0, noBytes, noBytes⟩, st)

theorem Rd.keep {b : Nat} {σ : Nat → Addr} {w w' : World} {g : Nat} {st : RS} {S : Nat → Prop} (h : Rd b σ w g st) (k : Keep S w w') (t : TypeId) (ht : t ≠ 146) (ht2 : t ≠ 150) (hS : ∀ i, S i → ∃ cs, Blk w i t cs) : Rd b σ w' g st := by
  obtain ⟨v, hb, he, h1, h2⟩ := h
  refine ⟨v, k.blk hb (fun hs => ?_), he.keep k (fun i cs hi hs => ?_), h1, h2⟩
  · obtain ⟨cs, hc⟩ := hS _ hs
    exact Blk.ne_ hc hb ht rfl
  · obtain ⟨cs', hc⟩ := hS _ hs
    exact Blk.ne_ hc hi ht2 rfl
/-- A block of another kind outlives what a reader does. -/
theorem Blk.rd {b : Nat} {σ : Nat → Addr} {w w' : World} {g h : Nat} {st : RS} {t : TypeId} {cs : Array Value} (hB : Blk w h t cs) (k : Only g w w') (hR : Rd b σ w g st) (ht : t ≠ 146) : Blk w' h t cs := by
  obtain ⟨v, hb, _⟩ := hR
  exact k.blk hB fun e => by subst e; exact Blk.ne_ hB hb ht rfl
/-- Two new blocks. -/
theorem blk_two (w : World) (t : TypeId) (cs cs' : Array Value) : Hid (Blk ((w.alloc (.cells cs t)).alloc (.cells cs' t)) w.heap.size t cs) ∧ Hid (Blk ((w.alloc (.cells cs t)).alloc (.cells cs' t)) (w.heap.size + 1) t cs') ∧
    Hid (Pure w ((w.alloc (.cells cs t)).alloc (.cells cs' t))) ∧ w.heap.size + 1 < ((w.alloc (.cells cs t)).alloc (.cells cs' t)).heap.size := by
  refine ⟨(Blk.new _ _ _).alloc _, ?_, ((Keep.refl _ w).alloc _).alloc _, by simp⟩
  have h := Blk.new (w.alloc (.cells cs t)) t cs'
  have e : (w.alloc (.cells cs t)).heap.size = w.heap.size + 1 := by simp
  rw [e] at h
  exact h
def ValPost (b : Nat) (σ : Nat → Addr) (g : Nat) (x : Pr × RS) (w : World) (e : Ending) (w' : World) : Prop :=
  e = .returned (.agg #[.int .i64 x.1.id, .int .i64 x.1.n, .string x.1.s, .string x.1.v]) ∧ Rd b σ w' g x.2 ∧ Only g w w'
/-- the end of prop.value: stores into blocks of its own -/
theorem val_end {b : Nat} {σ : Nat → Addr} {g h0 : Nat} {st : RS} {w w2 w3 : World} {cs0 cs1 : Array Value} (hR : Rd b σ w2 g st) (hP : Only g w w2) (h0s : w.heap.size ≤ h0) (hb0 : Blk w2 h0 152 cs0) (hb1 : Blk w2 (h0 + 1) 152 cs1)
    (k : Keep (fun i => i = h0 ∨ i = h0 + 1) w2 w3) : Rd b σ w3 g st ∧ Only g w w3 :=
  ⟨hR.keep k 152 (by decide) (by decide) (fun i hi => by rcases hi with rfl | rfl; exact ⟨_, hb0⟩; exact ⟨_, hb1⟩), hP.seq k fun i hi => .inr (by omega)⟩

set_option maxRecDepth 100000 in
set_option maxHeartbeats 1000000 in
theorem p_value_1 (b : Nat) (σ : Nat → Addr) (g : Nat) (st : RS) (id : Int) (w : World) (hG : Gl b σ w) (hR : Rd b σ w g st) (ht : pType id = 1) :
    Calls Tryz.prog 221 #[.pointer (some ⟨g, 0, none⟩), .int .i64 id] w (ValPost b σ g (pValue st id) w) := by
  have HG := Lib.hid hG
  have HR := Lib.hid hR
  have HT := Lib.hid ht
  have HV : Hid (pValue st id = (⟨id, (st.num 1).1, noBytes, noBytes⟩, (st.num 1).2)) := by show _ = _; unfold pValue; rw [ht]; rfl
  clear hG hR ht
  go_enter Tryz.func221, Tryz.ntmps221
  go_wp2_with fail
  refine (p_type _ _).mono ?_; rintro e w' ⟨rfl, rfl⟩
  rw [HT.out]
  obtain ⟨HBa, HBb, HPa, hsz⟩ := blk_two w 152 #[.int .i64 0, .int .i64 0, .string ⟨#[]⟩, .string ⟨#[]⟩] #[.int .i64 id, .int .i64 0, .string ⟨#[]⟩, .string ⟨#[]⟩]
  go_wp2_with fail
  generalize (w.alloc (.cells #[.int .i64 0, .int .i64 0, .string ⟨#[]⟩, .string ⟨#[]⟩] 152)).alloc (.cells #[.int .i64 id, .int .i64 0, .string ⟨#[]⟩, .string ⟨#[]⟩] 152) = w1 at *
  have HG1 := Lib.hid (HG.out.pure HPa.out)
  have HR1 := Lib.hid (HR.out.pure HPa.out)
  refine (r_u8 b σ g st _ HG1.out HR1.out).mono ?_; rintro e w2 ⟨rfl, h1, h2⟩
  have HR2 := Lib.hid h1
  have HG2 := Lib.hid (HG1.out.only h2 h1)
  have HP2 := Lib.hid ((Keep.of_pure HPa.out).trans h2)
  have HBa2 := Lib.hid (HBa.out.rd h2 HR1.out (by decide))
  have HBb2 := Lib.hid (HBb.out.rd h2 HR1.out (by decide))
  clear h1 h2 hsz
  have a0 := HBa2.out.cell 0
  have a1 := HBa2.out.cell 1
  have a2 := HBa2.out.cell 2
  have a3 := HBa2.out.cell 3
  have b0 := HBb2.out.cell 0
  have b1 := HBb2.out.cell 1
  have b2 := HBb2.out.cell 2
  have b3 := HBb2.out.cell 3
  have fa := HBa2.out.frozen
  have fb := HBb2.out.frozen
  have hlt : w.heap.size < w2.heap.size := HBa2.out.lt
  have hlt2 : w.heap.size + 1 < w2.heap.size := HBb2.out.lt
  simp at a0 a1 a2 a3 b0 b1 b2 b3
  go_wp2_with fail
  refine bodyPost_ret (v := .agg #[.int .i64 id, .int .i64 ((st.num 1).1 : Nat), .string noBytes, .string noBytes]) (by simp [results, Tryz.results221, go_sem, a0, a1, a2, a3, b0, b1, b2, b3, noBytes]) rfl ?_
  unfold ValPost
  rw [HV.out]
  refine ⟨rfl, val_end HR2.out HP2.out (Nat.le_refl _) HBa2.out HBb2.out ?_⟩
  repeat (first | exact Keep.refl _ _ | refine Keep.setCell ?_ (by simp) _)

set_option maxRecDepth 100000 in
set_option maxHeartbeats 1000000 in
theorem p_value_2 (b : Nat) (σ : Nat → Addr) (g : Nat) (st : RS) (id : Int) (w : World) (hG : Gl b σ w) (hR : Rd b σ w g st) (ht : pType id = 2) :
    Calls Tryz.prog 221 #[.pointer (some ⟨g, 0, none⟩), .int .i64 id] w (ValPost b σ g (pValue st id) w) := by
  have HG := Lib.hid hG
  have HR := Lib.hid hR
  have HT := Lib.hid ht
  have HV : Hid (pValue st id = (⟨id, (st.num 2).1, noBytes, noBytes⟩, (st.num 2).2)) := by show _ = _; unfold pValue; rw [ht]; rfl
  clear hG hR ht
  go_enter Tryz.func221, Tryz.ntmps221
  go_wp2_with fail
  refine (p_type _ _).mono ?_; rintro e w' ⟨rfl, rfl⟩
  rw [HT.out]
  obtain ⟨HBa, HBb, HPa, hsz⟩ := blk_two w 152 #[.int .i64 0, .int .i64 0, .string ⟨#[]⟩, .string ⟨#[]⟩] #[.int .i64 id, .int .i64 0, .string ⟨#[]⟩, .string ⟨#[]⟩]
  go_wp2_with fail
  generalize (w.alloc (.cells #[.int .i64 0, .int .i64 0, .string ⟨#[]⟩, .string ⟨#[]⟩] 152)).alloc (.cells #[.int .i64 id, .int .i64 0, .string ⟨#[]⟩, .string ⟨#[]⟩] 152) = w1 at *
  have HG1 := Lib.hid (HG.out.pure HPa.out)
  have HR1 := Lib.hid (HR.out.pure HPa.out)
  refine (r_u16 b σ g st _ HG1.out HR1.out).mono ?_; rintro e w2 ⟨rfl, h1, h2⟩
  have HR2 := Lib.hid h1
  have HG2 := Lib.hid (HG1.out.only h2 h1)
  have HP2 := Lib.hid ((Keep.of_pure HPa.out).trans h2)
  have HBa2 := Lib.hid (HBa.out.rd h2 HR1.out (by decide))
  have HBb2 := Lib.hid (HBb.out.rd h2 HR1.out (by decide))
  clear h1 h2 hsz
  have a0 := HBa2.out.cell 0
  have a1 := HBa2.out.cell 1
  have a2 := HBa2.out.cell 2
  have a3 := HBa2.out.cell 3
  have b0 := HBb2.out.cell 0
  have b1 := HBb2.out.cell 1
  have b2 := HBb2.out.cell 2
  have b3 := HBb2.out.cell 3
  have fa := HBa2.out.frozen
  have fb := HBb2.out.frozen
  have hlt : w.heap.size < w2.heap.size := HBa2.out.lt
  have hlt2 : w.heap.size + 1 < w2.heap.size := HBb2.out.lt
  simp at a0 a1 a2 a3 b0 b1 b2 b3
  go_wp2_with fail
  refine bodyPost_ret (v := .agg #[.int .i64 id, .int .i64 ((st.num 2).1 : Nat), .string noBytes, .string noBytes]) (by simp [results, Tryz.results221, go_sem, a0, a1, a2, a3, b0, b1, b2, b3, noBytes]) rfl ?_
  unfold ValPost
  rw [HV.out]
  refine ⟨rfl, val_end HR2.out HP2.out (Nat.le_refl _) HBa2.out HBb2.out ?_⟩
  repeat (first | exact Keep.refl _ _ | refine Keep.setCell ?_ (by simp) _)

set_option maxRecDepth 100000 in
set_option maxHeartbeats 1000000 in
theorem p_value_4 (b : Nat) (σ : Nat → Addr) (g : Nat) (st : RS) (id : Int) (w : World) (hG : Gl b σ w) (hR : Rd b σ w g st) (ht : pType id = 4) :
    Calls Tryz.prog 221 #[.pointer (some ⟨g, 0, none⟩), .int .i64 id] w (ValPost b σ g (pValue st id) w) := by
  have HG := Lib.hid hG
  have HR := Lib.hid hR
  have HT := Lib.hid ht
  have HV : Hid (pValue st id = (⟨id, (st.num 4).1, noBytes, noBytes⟩, (st.num 4).2)) := by show _ = _; unfold pValue; rw [ht]; rfl
  clear hG hR ht
  go_enter Tryz.func221, Tryz.ntmps221
  go_wp2_with fail
  refine (p_type _ _).mono ?_; rintro e w' ⟨rfl, rfl⟩
  rw [HT.out]
  obtain ⟨HBa, HBb, HPa, hsz⟩ := blk_two w 152 #[.int .i64 0, .int .i64 0, .string ⟨#[]⟩, .string ⟨#[]⟩] #[.int .i64 id, .int .i64 0, .string ⟨#[]⟩, .string ⟨#[]⟩]
  go_wp2_with fail
  generalize (w.alloc (.cells #[.int .i64 0, .int .i64 0, .string ⟨#[]⟩, .string ⟨#[]⟩] 152)).alloc (.cells #[.int .i64 id, .int .i64 0, .string ⟨#[]⟩, .string ⟨#[]⟩] 152) = w1 at *
  have HG1 := Lib.hid (HG.out.pure HPa.out)
  have HR1 := Lib.hid (HR.out.pure HPa.out)
  refine (r_u32 b σ g st _ HG1.out HR1.out).mono ?_; rintro e w2 ⟨rfl, h1, h2⟩
  have HR2 := Lib.hid h1
  have HG2 := Lib.hid (HG1.out.only h2 h1)
  have HP2 := Lib.hid ((Keep.of_pure HPa.out).trans h2)
  have HBa2 := Lib.hid (HBa.out.rd h2 HR1.out (by decide))
  have HBb2 := Lib.hid (HBb.out.rd h2 HR1.out (by decide))
  clear h1 h2 hsz
  have a0 := HBa2.out.cell 0
  have a1 := HBa2.out.cell 1
  have a2 := HBa2.out.cell 2
  have a3 := HBa2.out.cell 3
  have b0 := HBb2.out.cell 0
  have b1 := HBb2.out.cell 1
  have b2 := HBb2.out.cell 2
  have b3 := HBb2.out.cell 3
  have fa := HBa2.out.frozen
  have fb := HBb2.out.frozen
  have hlt : w.heap.size < w2.heap.size := HBa2.out.lt
  have hlt2 : w.heap.size + 1 < w2.heap.size := HBb2.out.lt
  simp at a0 a1 a2 a3 b0 b1 b2 b3
  go_wp2_with fail
  refine bodyPost_ret (v := .agg #[.int .i64 id, .int .i64 ((st.num 4).1 : Nat), .string noBytes, .string noBytes]) (by simp [results, Tryz.results221, go_sem, a0, a1, a2, a3, b0, b1, b2, b3, noBytes]) rfl ?_
  unfold ValPost
  rw [HV.out]
  refine ⟨rfl, val_end HR2.out HP2.out (Nat.le_refl _) HBa2.out HBb2.out ?_⟩
  repeat (first | exact Keep.refl _ _ | refine Keep.setCell ?_ (by simp) _)

set_option maxRecDepth 100000 in
set_option maxHeartbeats 1000000 in
theorem p_value_5 (b : Nat) (σ : Nat → Addr) (g : Nat) (st : RS) (id : Int) (w : World) (hG : Gl b σ w) (hR : Rd b σ w g st) (ht : pType id = 5) :
    Calls Tryz.prog 221 #[.pointer (some ⟨g, 0, none⟩), .int .i64 id] w (ValPost b σ g (pValue st id) w) := by
  have HG := Lib.hid hG
  have HR := Lib.hid hR
  have HT := Lib.hid ht
  have HV : Hid (pValue st id = (⟨id, st.var.1, noBytes, noBytes⟩, st.var.2)) := by show _ = _; unfold pValue; rw [ht]; rfl
  clear hG hR ht
  go_enter Tryz.func221, Tryz.ntmps221
  go_wp2_with fail
  refine (p_type _ _).mono ?_; rintro e w' ⟨rfl, rfl⟩
  rw [HT.out]
  obtain ⟨HBa, HBb, HPa, hsz⟩ := blk_two w 152 #[.int .i64 0, .int .i64 0, .string ⟨#[]⟩, .string ⟨#[]⟩] #[.int .i64 id, .int .i64 0, .string ⟨#[]⟩, .string ⟨#[]⟩]
  go_wp2_with fail
  generalize (w.alloc (.cells #[.int .i64 0, .int .i64 0, .string ⟨#[]⟩, .string ⟨#[]⟩] 152)).alloc (.cells #[.int .i64 id, .int .i64 0, .string ⟨#[]⟩, .string ⟨#[]⟩] 152) = w1 at *
  have HG1 := Lib.hid (HG.out.pure HPa.out)
  have HR1 := Lib.hid (HR.out.pure HPa.out)
  refine (r_var b σ g st _ HG1.out HR1.out).mono ?_; rintro e w2 ⟨rfl, h1, h2⟩
  have HR2 := Lib.hid h1
  have HG2 := Lib.hid (HG1.out.only h2 h1)
  have HP2 := Lib.hid ((Keep.of_pure HPa.out).trans h2)
  have HBa2 := Lib.hid (HBa.out.rd h2 HR1.out (by decide))
  have HBb2 := Lib.hid (HBb.out.rd h2 HR1.out (by decide))
  clear h1 h2 hsz
  have a0 := HBa2.out.cell 0
  have a1 := HBa2.out.cell 1
  have a2 := HBa2.out.cell 2
  have a3 := HBa2.out.cell 3
  have b0 := HBb2.out.cell 0
  have b1 := HBb2.out.cell 1
  have b2 := HBb2.out.cell 2
  have b3 := HBb2.out.cell 3
  have fa := HBa2.out.frozen
  have fb := HBb2.out.frozen
  have hlt : w.heap.size < w2.heap.size := HBa2.out.lt
  have hlt2 : w.heap.size + 1 < w2.heap.size := HBb2.out.lt
  simp at a0 a1 a2 a3 b0 b1 b2 b3
  go_wp2_with fail
  refine bodyPost_ret (v := .agg #[.int .i64 id, .int .i64 (st.var.1 : Nat), .string noBytes, .string noBytes]) (by simp [results, Tryz.results221, go_sem, a0, a1, a2, a3, b0, b1, b2, b3, noBytes]) rfl ?_
  unfold ValPost
  rw [HV.out]
  refine ⟨rfl, val_end HR2.out HP2.out (Nat.le_refl _) HBa2.out HBb2.out ?_⟩
  repeat (first | exact Keep.refl _ _ | refine Keep.setCell ?_ (by simp) _)

set_option maxRecDepth 100000 in
set_option maxHeartbeats 1000000 in
theorem p_value_7 (b : Nat) (σ : Nat → Addr) (g : Nat) (st : RS) (id : Int) (w : World) (hG : Gl b σ w) (hR : Rd b σ w g st) (ht : pType id = 7) :
    Calls Tryz.prog 221 #[.pointer (some ⟨g, 0, none⟩), .int .i64 id] w (ValPost b σ g (pValue st id) w) := by
  have HG := Lib.hid hG
  have HR := Lib.hid hR
  have HT := Lib.hid ht
  have HV : Hid (pValue st id = (⟨id, 0, st.bin.1, noBytes⟩, st.bin.2)) := by show _ = _; unfold pValue; rw [ht]; rfl
  clear hG hR ht
  go_enter Tryz.func221, Tryz.ntmps221
  go_wp2_with fail
  refine (p_type _ _).mono ?_; rintro e w' ⟨rfl, rfl⟩
  rw [HT.out]
  obtain ⟨HBa, HBb, HPa, hsz⟩ := blk_two w 152 #[.int .i64 0, .int .i64 0, .string ⟨#[]⟩, .string ⟨#[]⟩] #[.int .i64 id, .int .i64 0, .string ⟨#[]⟩, .string ⟨#[]⟩]
  go_wp2_with fail
  generalize (w.alloc (.cells #[.int .i64 0, .int .i64 0, .string ⟨#[]⟩, .string ⟨#[]⟩] 152)).alloc (.cells #[.int .i64 id, .int .i64 0, .string ⟨#[]⟩, .string ⟨#[]⟩] 152) = w1 at *
  have HG1 := Lib.hid (HG.out.pure HPa.out)
  have HR1 := Lib.hid (HR.out.pure HPa.out)
  refine (r_bin b σ g st _ HG1.out HR1.out).mono ?_; rintro e w2 ⟨rfl, h1, h2⟩
  have HR2 := Lib.hid h1
  have HG2 := Lib.hid (HG1.out.only h2 h1)
  have HP2 := Lib.hid ((Keep.of_pure HPa.out).trans h2)
  have HBa2 := Lib.hid (HBa.out.rd h2 HR1.out (by decide))
  have HBb2 := Lib.hid (HBb.out.rd h2 HR1.out (by decide))
  clear h1 h2 hsz
  have a0 := HBa2.out.cell 0
  have a1 := HBa2.out.cell 1
  have a2 := HBa2.out.cell 2
  have a3 := HBa2.out.cell 3
  have b0 := HBb2.out.cell 0
  have b1 := HBb2.out.cell 1
  have b2 := HBb2.out.cell 2
  have b3 := HBb2.out.cell 3
  have fa := HBa2.out.frozen
  have fb := HBb2.out.frozen
  have hlt : w.heap.size < w2.heap.size := HBa2.out.lt
  have hlt2 : w.heap.size + 1 < w2.heap.size := HBb2.out.lt
  simp at a0 a1 a2 a3 b0 b1 b2 b3
  go_wp2_with fail
  refine bodyPost_ret (v := .agg #[.int .i64 id, .int .i64 0, .string st.bin.1, .string noBytes]) (by simp [results, Tryz.results221, go_sem, a0, a1, a2, a3, b0, b1, b2, b3, noBytes]) rfl ?_
  unfold ValPost
  rw [HV.out]
  refine ⟨rfl, val_end HR2.out HP2.out (Nat.le_refl _) HBa2.out HBb2.out ?_⟩
  repeat (first | exact Keep.refl _ _ | refine Keep.setCell ?_ (by simp) _)

set_option maxRecDepth 100000 in
set_option maxHeartbeats 1000000 in
theorem p_value_9 (b : Nat) (σ : Nat → Addr) (g : Nat) (st : RS) (id : Int) (w : World) (hG : Gl b σ w) (hR : Rd b σ w g st) (ht : pType id = 9) :
    Calls Tryz.prog 221 #[.pointer (some ⟨g, 0, none⟩), .int .i64 id] w (ValPost b σ g (pValue st id) w) := by
  have HG := Lib.hid hG
  have HR := Lib.hid hR
  have HT := Lib.hid ht
  have HV : Hid (pValue st id = (⟨id, 0, st.text.1, st.text.2.text.1⟩, st.text.2.text.2)) := by show _ = _; unfold pValue; rw [ht]; rfl
  clear hG hR ht
  go_enter Tryz.func221, Tryz.ntmps221
  go_wp2_with fail
  refine (p_type _ _).mono ?_; rintro e w' ⟨rfl, rfl⟩
  rw [HT.out]
  obtain ⟨HBa, HBb, HPa, hsz⟩ := blk_two w 152 #[.int .i64 0, .int .i64 0, .string ⟨#[]⟩, .string ⟨#[]⟩] #[.int .i64 id, .int .i64 0, .string ⟨#[]⟩, .string ⟨#[]⟩]
  go_wp2_with fail
  generalize (w.alloc (.cells #[.int .i64 0, .int .i64 0, .string ⟨#[]⟩, .string ⟨#[]⟩] 152)).alloc (.cells #[.int .i64 id, .int .i64 0, .string ⟨#[]⟩, .string ⟨#[]⟩] 152) = w1 at *
  have HG1 := Lib.hid (HG.out.pure HPa.out)
  have HR1 := Lib.hid (HR.out.pure HPa.out)
  refine (r_text b σ g st _ HG1.out HR1.out).mono ?_; rintro e w2 ⟨rfl, h1, h2⟩
  have HR2 := Lib.hid h1
  have HG2 := Lib.hid (HG1.out.only h2 h1)
  have HP2 := Lib.hid ((Keep.of_pure HPa.out).trans h2)
  have HBa2 := Lib.hid (HBa.out.rd h2 HR1.out (by decide))
  have HBb2 := Lib.hid (HBb.out.rd h2 HR1.out (by decide))
  clear h1 h2 hsz
  have a0 := HBa2.out.cell 0
  have a1 := HBa2.out.cell 1
  have a2 := HBa2.out.cell 2
  have a3 := HBa2.out.cell 3
  have b0 := HBb2.out.cell 0
  have b1 := HBb2.out.cell 1
  have b2 := HBb2.out.cell 2
  have b3 := HBb2.out.cell 3
  have fa := HBa2.out.frozen
  have fb := HBb2.out.frozen
  have hlt : w.heap.size < w2.heap.size := HBa2.out.lt
  have hlt2 : w.heap.size + 1 < w2.heap.size := HBb2.out.lt
  simp at a0 a1 a2 a3 b0 b1 b2 b3
  go_wp2_with fail
  have HK3 : Hid (Keep (fun i => i = w.heap.size ∨ i = w.heap.size + 1) w2 (w2.setCell ⟨w.heap.size + 1, 2, none⟩ (.string st.text.1))) := (Keep.refl _ _).setCell (.inl (.inr rfl)) _
  have HE3 := Lib.hid (val_end HR2.out HP2.out (Nat.le_refl _) HBa2.out HBb2.out HK3.out)
  have HBa3 := Lib.hid (HBa2.out.far (p := ⟨w.heap.size + 1, 2, none⟩) (by simp) (.string st.text.1))
  have HBb3 := Lib.hid (HBb2.out.set_ 2 (.string st.text.1))
  have HG3 := Lib.hid (HG2.out.keep HK3.out fun i hi => by have h5 := HG.out.size; omega)
  generalize w2.setCell ⟨w.heap.size + 1, 2, none⟩ (.string st.text.1) = w3 at *
  clear a0 a1 a2 a3 b0 b1 b2 b3 fa fb hlt hlt2
  refine (r_text b σ g _ _ HG3.out HE3.out.1).mono ?_; rintro e w4 ⟨rfl, h1, h2⟩
  have HR4 := Lib.hid h1
  have HP4 := Lib.hid (HE3.out.2.trans h2)
  have HBa4 := Lib.hid (HBa3.out.rd h2 HE3.out.1 (by decide))
  have HBb4 := Lib.hid (HBb3.out.rd h2 HE3.out.1 (by decide))
  clear h1 h2
  have a0 := HBa4.out.cell 0
  have a1 := HBa4.out.cell 1
  have a2 := HBa4.out.cell 2
  have a3 := HBa4.out.cell 3
  have b0 := HBb4.out.cell 0
  have b1 := HBb4.out.cell 1
  have b2 := HBb4.out.cell 2
  have b3 := HBb4.out.cell 3
  have fa := HBa4.out.frozen
  have fb := HBb4.out.frozen
  have hlt : w.heap.size < w4.heap.size := HBa4.out.lt
  have hlt2 : w.heap.size + 1 < w4.heap.size := HBb4.out.lt
  simp at a0 a1 a2 a3 b0 b1 b2 b3
  go_wp2_with fail
  refine bodyPost_ret (v := .agg #[.int .i64 id, .int .i64 0, .string st.text.1, .string st.text.2.text.1]) (by simp [results, Tryz.results221, go_sem, a0, a1, a2, a3, b0, b1, b2, b3, noBytes]) rfl ?_
  unfold ValPost
  rw [HV.out]
  refine ⟨rfl, val_end HR4.out HP4.out (Nat.le_refl _) HBa4.out HBb4.out ?_⟩
  repeat (first | exact Keep.refl _ _ | refine Keep.setCell ?_ (by simp) _)

set_option maxRecDepth 100000 in
set_option maxHeartbeats 1000000 in
theorem p_value_6 (b : Nat) (σ : Nat → Addr) (g : Nat) (st : RS) (id : Int) (w : World) (hG : Gl b σ w) (hR : Rd b σ w g st) (ht : pType id = 6) :
    Calls Tryz.prog 221 #[.pointer (some ⟨g, 0, none⟩), .int .i64 id] w (ValPost b σ g (pValue st id) w) := by
  have HG := Lib.hid hG
  have HR := Lib.hid hR
  have HT := Lib.hid ht
  have HV : Hid (pValue st id = (⟨id, 0, st.text.1, noBytes⟩, st.text.2)) := by show _ = _; unfold pValue; rw [ht]; rfl
  clear hG hR ht
  go_enter Tryz.func221, Tryz.ntmps221
  go_wp2_with fail
  refine (p_type _ _).mono ?_; rintro e w' ⟨rfl, rfl⟩
  rw [HT.out]
  obtain ⟨HBa, HBb, HPa, hsz⟩ := blk_two w 152 #[.int .i64 0, .int .i64 0, .string ⟨#[]⟩, .string ⟨#[]⟩] #[.int .i64 id, .int .i64 0, .string ⟨#[]⟩, .string ⟨#[]⟩]
  go_wp2_with fail
  generalize (w.alloc (.cells #[.int .i64 0, .int .i64 0, .string ⟨#[]⟩, .string ⟨#[]⟩] 152)).alloc (.cells #[.int .i64 id, .int .i64 0, .string ⟨#[]⟩, .string ⟨#[]⟩] 152) = w1 at *
  have HG1 := Lib.hid (HG.out.pure HPa.out)
  have HR1 := Lib.hid (HR.out.pure HPa.out)
  refine (r_text b σ g st _ HG1.out HR1.out).mono ?_; rintro e w2 ⟨rfl, h1, h2⟩
  have HR2 := Lib.hid h1
  have HG2 := Lib.hid (HG1.out.only h2 h1)
  have HP2 := Lib.hid ((Keep.of_pure HPa.out).trans h2)
  have HBa2 := Lib.hid (HBa.out.rd h2 HR1.out (by decide))
  have HBb2 := Lib.hid (HBb.out.rd h2 HR1.out (by decide))
  clear h1 h2 hsz
  have a0 := HBa2.out.cell 0
  have a1 := HBa2.out.cell 1
  have a2 := HBa2.out.cell 2
  have a3 := HBa2.out.cell 3
  have b0 := HBb2.out.cell 0
  have b1 := HBb2.out.cell 1
  have b2 := HBb2.out.cell 2
  have b3 := HBb2.out.cell 3
  have fa := HBa2.out.frozen
  have fb := HBb2.out.frozen
  have hlt : w.heap.size < w2.heap.size := HBa2.out.lt
  have hlt2 : w.heap.size + 1 < w2.heap.size := HBb2.out.lt
  simp at a0 a1 a2 a3 b0 b1 b2 b3
  go_wp2_with fail
  refine bodyPost_ret (v := .agg #[.int .i64 id, .int .i64 0, .string st.text.1, .string noBytes]) (by simp [results, Tryz.results221, go_sem, a0, a1, a2, a3, b0, b1, b2, b3, noBytes]) rfl ?_
  unfold ValPost
  rw [HV.out]
  refine ⟨rfl, val_end HR2.out HP2.out (Nat.le_refl _) HBa2.out HBb2.out ?_⟩
  repeat (first | exact Keep.refl _ _ | refine Keep.setCell ?_ (by simp) _)

theorem pType_cases (id : Int) : pType id = 1 ∨ pType id = 2 ∨ pType id = 4 ∨ pType id = 5 ∨ pType id = 7 ∨ pType id = 9 ∨ pType id = 6 ∨ pType id = 0 := by
  unfold pType
  (repeat' split) <;> simp
theorem p_value (b : Nat) (σ : Nat → Addr) (g : Nat) (st : RS) (id : Int) (w : World) (hG : Gl b σ w) (hR : Rd b σ w g st) (h0 : pType id ≠ 0) :
    Calls Tryz.prog 221 #[.pointer (some ⟨g, 0, none⟩), .int .i64 id] w (ValPost b σ g (pValue st id) w) := by
  rcases pType_cases id with h | h | h | h | h | h | h | h
  · exact p_value_1 b σ g st id w hG hR h
  · exact p_value_2 b σ g st id w hG hR h
  · exact p_value_4 b σ g st id w hG hR h
  · exact p_value_5 b σ g st id w hG hR h
  · exact p_value_7 b σ g st id w hG hR h
  · exact p_value_9 b σ g st id w hG hR h
  · exact p_value_6 b σ g st id w hG hR h
  · exact absurd h h0
end Go.Proofs.YthokkjdolcfhcaaGreatDoor

set_option linter.unusedVariables false
namespace Go.Proofs.YthokkjdolcfhcaaGreatDoor
open Go.RowKit

def zeroPr : Pr := ⟨0, 0, noBytes, noBytes⟩
def pOne (st : RS) (place : Int) (ahead : List Pr) : (Pr × Option Flt) × RS :=
  match st.var.2.e with
  | some f => ((zeroPr, some f), st.var.2)
  | none =>
    match pGround place ahead st.var.1 st.at_ with
    | some f => ((zeroPr, some f), st.var.2)
    | none =>
      match (pValue st.var.2 st.var.1).2.e with
      | some f => ((zeroPr, some f), (pValue st.var.2 st.var.1).2)
      | none => (((pValue st.var.2 st.var.1).1, pBad (pValue st.var.2 st.var.1).1 st.at_), (pValue st.var.2 st.var.1).2)

def prVal (p : Pr) : Value := .agg #[.int .i64 p.id, .int .i64 p.n, .string p.s, .string p.v]
def OnePost (b : Nat) (σ : Nat → Addr) (g : Nat) (x : (Pr × Option Flt) × RS) (w : World) (e : Ending) (w' : World) : Prop :=
  ∃ v, e = .returned (.tuple #[prVal x.1.1, v]) ∧ Er σ w' v x.1.2 ∧ Rd b σ w' g x.2 ∧ Only g w w'

/-- The row of properties outlives what a reader does. -/
theorem own_rd {b : Nat} {σ : Nat → Addr} {w w' : World} {g : Nat} {st : RS} {base e size n : Nat} {v : Value} {xs : List Value} (ho : w.ownsRow base e size v n xs) (k : Only g w w') (hR : Rd b σ w g st) (he : e ≠ 146) : w'.ownsRow base e size v n xs :=
  k.own ho fun i hi hig => by
    subst hig
    obtain ⟨x, hb, _⟩ := hR
    rcases ho.2 with ⟨rfl, _⟩ | ⟨g', cap, cur, rfl, _, hh, _⟩
    · simp [Value.ownBlock] at hi
    · have : g' = i := by simpa [Value.ownBlock] using hi
      subst this
      exact Blk.ne_ (t := e) hh hb he rfl

theorem pGround_type {place : Int} {l : List Pr} {id at_ : Int} (h : pGround place l id at_ = none) : pType id ≠ 0 := by
  intro h0
  unfold pGround at h
  split at h
  · cases h
  · rw [if_pos (.inl h0)] at h; cases h

theorem Rd.okk {b : Nat} {σ : Nat → Addr} {w : World} {g : Nat} {st : RS} (h : Rd b σ w g st) : st.Ok := h.elim fun _ h => h.2.2.2

theorem rd_end {b : Nat} {σ : Nat → Addr} {g h : Nat} {st : RS} {w w2 w3 : World} {cs : Array Value} (hR : Rd b σ w2 g st) (hP : Only g w w2) (hs : w.heap.size ≤ h) (hb : Blk w2 h 152 cs)
    (k : Keep (fun i => i = h) w2 w3) : Rd b σ w3 g st ∧ Only g w w3 :=
  ⟨hR.keep k 152 (by decide) (by decide) (fun i hi => by subst hi; exact ⟨_, hb⟩), hP.seq k fun i hi => .inr (by omega)⟩
theorem er_end {σ : Nat → Addr} {h : Nat} {w2 w3 : World} {v : Value} {f : Option Flt} {cs : Array Value} (hE : Er σ w2 v f) (hb : Blk w2 h 152 cs) (k : Keep (fun i => i = h) w2 w3) : Er σ w3 v f :=
  hE.only k hb (by decide)

theorem one_end {b : Nat} {σ : Nat → Addr} {g h : Nat} {st : RS} {w w2 w3 : World} {cs : Array Value} {v : Value} {f : Option Flt} (hE : Er σ w2 v f) (hR : Rd b σ w2 g st) (hP : Only g w w2) (hs : w.heap.size ≤ h) (hb : Blk w2 h 152 cs)
    (k : Keep (fun i => i = h) w2 w3) : Er σ w3 v f ∧ Rd b σ w3 g st ∧ Only g w w3 := ⟨er_end hE hb k, rd_end hR hP hs hb k⟩
/-- What a call of whose world 'Pure' is known leaves as it was, as rules of the walk. -/
theorem Keep.rules {w w' : World} (h : Pure w w') : (∀ b o, b < w.heap.size → w'.cell? ⟨b, o, none⟩ = w.cell? ⟨b, o, none⟩) ∧ (∀ b o, b < w.heap.size → w'.frozen? ⟨b, o, none⟩ = w.frozen? ⟨b, o, none⟩) ∧ w.heap.size ≤ w'.heap.size :=
  ⟨fun b o hb => h.cell (p := ⟨b, o, none⟩) hb fun hf => hf, fun b o hb => h.frozen (p := ⟨b, o, none⟩) hb fun hf => hf, h.size⟩

set_option maxRecDepth 100000 in
set_option maxHeartbeats 2000000 in
theorem p_one (b : Nat) (σ : Nat → Addr) (g : Nat) (st : RS) (place : Int) (base c : Nat) (A : Option Addr) (l : List Pr) (w : World) (hG : Gl b σ w) (hR : Rd b σ w g st) (ho : w.ownsRow base 152 4 (.slice A l.length c) l.length (prRow l)) (hl : l.length ≤ 140737488351232) :
    Calls Tryz.prog 169 #[.pointer (some ⟨g, 0, none⟩), .int .i64 place, .slice A l.length c] w (OnePost b σ g (pOne st place l) w) := by
  have HG := Lib.hid hG
  have HR := Lib.hid hR
  have HO := Lib.hid ho
  clear hG hR ho
  go_enter Tryz.func169, Tryz.ntmps169
  have HPa : Hid (Pure w (w.alloc (.cells #[.int .i64 0, .int .i64 0, .string ⟨#[]⟩, .string ⟨#[]⟩] 152))) := (Keep.refl _ w).alloc _
  have HBa : Hid (Blk (w.alloc (.cells #[.int .i64 0, .int .i64 0, .string ⟨#[]⟩, .string ⟨#[]⟩] 152)) w.heap.size 152 #[.int .i64 0, .int .i64 0, .string ⟨#[]⟩, .string ⟨#[]⟩]) := Blk.new _ _ _
  go_wp2_with fail
  generalize w.alloc (.cells #[.int .i64 0, .int .i64 0, .string ⟨#[]⟩, .string ⟨#[]⟩] 152) = w1 at *
  have HG1 := Lib.hid (HG.out.pure HPa.out)
  have HR1 := Lib.hid (HR.out.pure HPa.out)
  have HO1 := Lib.hid (HPa.out.own HO.out fun _ _ hf => hf)
  refine (r_at b σ g st w1 HR1.out).mono ?_; rintro e w' ⟨rfl, rfl⟩
  go_wp2_with fail
  refine (r_var b σ g st w1 HG1.out HR1.out).mono ?_; rintro e w2 ⟨rfl, h1, h2⟩
  have HR2 := Lib.hid h1
  have HG2 := Lib.hid (HG1.out.only h2 h1)
  have HP2 := Lib.hid ((Keep.of_pure HPa.out).trans h2)
  have HB2 := Lib.hid (HBa.out.rd h2 HR1.out (by decide))
  have HO2 := Lib.hid (own_rd HO1.out h2 HR1.out (by decide))
  clear h1 h2
  go_wp2_with fail
  refine (r_err b σ g _ w2 HR2.out).mono ?_; rintro e w' ⟨v, rfl, hE, rfl⟩
  cases hve : st.var.2.e with
  | some f =>
    have HV : Hid (pOne st place l = ((zeroPr, some f), st.var.2)) := by show _ = _; unfold pOne; rw [hve]
    rw [hve] at hE
    have HE := Lib.hid hE
    obtain ⟨_, g', x, rfl, _⟩ := hE.some_
    clear hve hE
    have a0 := HB2.out.cell 0
    have a1 := HB2.out.cell 1
    have a2 := HB2.out.cell 2
    have a3 := HB2.out.cell 3
    have fa := HB2.out.frozen
    have hlt : w.heap.size < w2.heap.size := HB2.out.lt
    simp at a0 a1 a2 a3
    go_wp2_with fail
    refine bodyPost_ret (v := .tuple #[prVal zeroPr, (.iface 148 (.pointer (some ⟨g', 0, none⟩)))]) (by simp [results, Tryz.results169, go_sem, prVal, zeroPr, noBytes, a0, a1, a2, a3]) rfl ?_
    unfold OnePost
    rw [HV.out]
    refine ⟨_, rfl, one_end HE.out HR2.out HP2.out (Nat.le_refl _) HB2.out ?_⟩
    repeat (first | exact Keep.refl _ _ | refine Keep.setCell ?_ (by simp) _)
  | none =>
    rw [hve] at hE
    simp only [Er] at hE
    subst hE
    have HVE := Lib.hid hve
    clear hve
    go_wp2_with fail
    refine (p_ground b σ place A c w2.heap.size l _ _ w2 HG2.out (Reads.of_own HO2.out) (Nat.le_refl _) hl).mono ?_; rintro e w3 ⟨v, rfl, hE, hP⟩
    have HR3 := Lib.hid (HR2.out.pure hP)
    have HG3 := Lib.hid (HG2.out.pure hP)
    have HP3 := Lib.hid (HP2.out.trans (Keep.of_pure hP))
    have HB3 := Lib.hid (hP.blk HB2.out fun hf => hf)
    clear hP
    cases hg : pGround place l st.var.1 st.at_ with
    | some f =>
      have HV : Hid (pOne st place l = ((zeroPr, some f), st.var.2)) := by show _ = _; unfold pOne; rw [HVE.out]; simp only; rw [hg]
      rw [hg] at hE
      have HE := Lib.hid hE
      obtain ⟨_, g', x, rfl, _⟩ := hE.some_
      clear hg hE
      have a0 := HB3.out.cell 0
      have a1 := HB3.out.cell 1
      have a2 := HB3.out.cell 2
      have a3 := HB3.out.cell 3
      have fa := HB3.out.frozen
      have hlt : w.heap.size < w3.heap.size := HB3.out.lt
      simp at a0 a1 a2 a3
      go_wp2_with fail
      refine bodyPost_ret (v := .tuple #[prVal zeroPr, (.iface 148 (.pointer (some ⟨g', 0, none⟩)))]) (by simp [results, Tryz.results169, go_sem, prVal, zeroPr, noBytes, a0, a1, a2, a3]) rfl ?_
      unfold OnePost
      rw [HV.out]
      refine ⟨_, rfl, one_end HE.out HR3.out HP3.out (Nat.le_refl _) HB3.out ?_⟩
      repeat (first | exact Keep.refl _ _ | refine Keep.setCell ?_ (by simp) _)
    | none =>
      have HTY := Lib.hid (pGround_type hg)
      rw [hg] at hE
      simp only [Er] at hE
      subst hE
      have HGN := Lib.hid hg
      clear hg
      go_wp2_with fail
      refine (p_value b σ g _ _ w3 HG3.out HR3.out HTY.out).mono ?_; rintro e w4 ⟨rfl, h1, h2⟩
      have HR4 := Lib.hid h1
      have HG4 := Lib.hid (HG3.out.only h2 h1)
      have HP4 := Lib.hid (HP3.out.trans h2)
      have HB4 := Lib.hid (HB3.out.rd h2 HR3.out (by decide))
      clear h1 h2
      have HVV : Hid (∀ x, x = pValue st.var.2 st.var.1 → pOne st place l = match x.2.e with
        | some f => ((zeroPr, some f), x.2)
        | none => ((x.1, pBad x.1 st.at_), x.2)) := fun x hx => by
          show _ = _
          subst hx
          unfold pOne
          rw [HVE.out]
          simp only
          rw [HGN.out]
      have HV0 := Lib.hid (HVV.out _ rfl)
      clear HVV
      generalize pValue st.var.2 st.var.1 = x at *
      obtain ⟨⟨xi, xn, xs, xv⟩, sx⟩ := x
      have HBp : Hid (Blk (w4.alloc (.cells #[.int .i64 xi, .int .i64 xn, .string xs, .string xv] 152)) w4.heap.size 152 #[.int .i64 xi, .int .i64 xn, .string xs, .string xv]) := Blk.new _ _ _
      have HPp : Hid (Pure w4 (w4.alloc (.cells #[.int .i64 xi, .int .i64 xn, .string xs, .string xv] 152))) := (Keep.refl _ _).alloc _
      have hne : w.heap.size < w4.heap.size := HB4.out.lt
      simp only
      go_wp2_with fail
      generalize hg4 : w4.heap.size = h4 at *
      generalize w4.alloc (.cells #[.int .i64 xi, .int .i64 xn, .string xs, .string xv] 152) = w5 at *
      have HR5 := Lib.hid (HR4.out.pure HPp.out)
      have HG5 := Lib.hid (HG4.out.pure HPp.out)
      have HP5 := Lib.hid (HP4.out.trans (Keep.of_pure HPp.out))
      have HB5 := Lib.hid (HPp.out.blk HB4.out fun hf => hf)
      clear hg4
      refine (r_err b σ g _ w5 HR5.out).mono ?_; rintro e w' ⟨v, rfl, hE, rfl⟩
      cases hve : sx.e with
      | some f =>
        have HV : Hid (pOne st place l = ((zeroPr, some f), sx)) := by show _ = _; rw [HV0.out]; (try simp only); rw [hve]
        try simp only at hE
        rw [hve] at hE
        have HE := Lib.hid hE
        obtain ⟨_, g', x, rfl, _⟩ := hE.some_
        clear hve hE
        have a0 := HB5.out.cell 0
        have a1 := HB5.out.cell 1
        have a2 := HB5.out.cell 2
        have a3 := HB5.out.cell 3
        have fa := HB5.out.frozen
        have hlt : w.heap.size < w5.heap.size := HB5.out.lt
        simp at a0 a1 a2 a3
        go_wp2_with fail
        refine bodyPost_ret (v := .tuple #[prVal zeroPr, (.iface 148 (.pointer (some ⟨g', 0, none⟩)))]) (by simp [results, Tryz.results169, go_sem, prVal, zeroPr, noBytes, a0, a1, a2, a3]) rfl ?_
        unfold OnePost
        rw [HV.out]
        refine ⟨_, rfl, one_end HE.out HR5.out HP5.out (Nat.le_refl _) HB5.out ?_⟩
        repeat (first | exact Keep.refl _ _ | refine Keep.setCell ?_ (by simp) _)
      | none =>
        have HV : Hid (pOne st place l = ((⟨xi, xn, xs, xv⟩, pBad ⟨xi, xn, xs, xv⟩ st.at_), sx)) := by show _ = _; rw [HV0.out]; (try simp only); rw [hve]
        try simp only at hE
        rw [hve] at hE
        simp only [Er] at hE
        subst hE
        clear hve
        have a0 := HB5.out.cell 0
        have a1 := HB5.out.cell 1
        have a2 := HB5.out.cell 2
        have a3 := HB5.out.cell 3
        have fa := HB5.out.frozen
        have hlt : w.heap.size < w5.heap.size := HB5.out.lt
        simp at a0 a1 a2 a3
        have b0 := HBp.out.cell 0
        have b1 := HBp.out.cell 1
        have b2 := HBp.out.cell 2
        have b3 := HBp.out.cell 3
        simp at b0 b1 b2 b3
        go_wp2_with fail
        have hlt4 : h4 < w5.heap.size := HBp.out.lt
        go_region_with (go_at_call 213; refine (p_bad b σ ⟨xi, xn, xs, xv⟩ _ _ (HG5.out.drew)).mono ?_; rintro e w' ⟨v, rfl, hE, hP⟩; obtain ⟨q1, q2, q3⟩ := hP.rules; simp at q1 q2 q3)
        all_goals
          have HP6 := Lib.hid (((Keep.refl (fun _ => False) w5).drew).trans hP)
          have HE := Lib.hid hE
          go_wp2_with fail
          refine bodyPost_ret (v := .tuple #[prVal ⟨xi, xn, xs, xv⟩, v]) (by simp [results, Tryz.results169, go_sem, prVal, noBytes, q1, q2, hlt, a0, a1, a2, a3]) rfl ?_
          unfold OnePost
          rw [HV.out]
          refine ⟨_, rfl, one_end HE.out (HR5.out.pure HP6.out) (HP5.out.trans (Keep.of_pure HP6.out)) (Nat.le_refl _) (HP6.out.blk HB5.out fun hf => hf) ?_⟩
          repeat (first | exact Keep.refl _ _ | refine Keep.setCell ?_ (by simp) _)
end Go.Proofs.YthokkjdolcfhcaaGreatDoor

namespace Go.Proofs.YthokkjdolcfhcaaGreatDoor

/-- What is read goes forth, or there is an error. -/
def Adv (st st' : RS) : Prop := st'.s = st.s ∧ (st'.e = none → st.e = none ∧ st.at_ ≤ st'.at_)
theorem Adv.refl (st : RS) : Adv st st := ⟨rfl, fun h => ⟨h, Nat.le_refl _⟩⟩
theorem Adv.trans {a b c : RS} (h : Adv a b) (k : Adv b c) : Adv a c :=
  ⟨k.1.trans h.1, fun hc => ⟨(h.2 (k.2 hc).1).1, Nat.le_trans (h.2 (k.2 hc).1).2 (k.2 hc).2⟩⟩
theorem adv_raw (st : RS) (n : Int) : Adv st (st.raw n).2 := by
  refine ⟨RS.raw_s st n, fun h => ?_⟩
  unfold RS.raw at h ⊢
  cases he : st.e with
  | some f => rw [he] at h; simp at h; rw [he] at h; cases h
  | none =>
    rw [he] at h
    simp only at h ⊢
    split at h
    · simp [RS.fail] at h
    · split at h
      · simp [RS.fail] at h
      · rename_i h1 h2
        rw [if_neg h1, if_neg h2]
        exact ⟨trivial, by simp only; omega⟩
theorem adv_num (st : RS) (n : Nat) : Adv st (st.num n).2 := adv_raw st n
theorem adv_bin (st : RS) : Adv st st.bin.2 := by
  have h1 := (adv_num st 2).trans (adv_raw (st.num 2).2 (st.num 2).1)
  refine ⟨RS.bin_s st, fun h => ?_⟩
  have e : st.bin.2 = ((st.num 2).2.raw (st.num 2).1).2.back st.at_ := rfl
  rw [e] at h ⊢
  unfold RS.back at h ⊢
  split
  · rename_i hs
    rw [if_pos hs] at h
    simp only at h
    rw [h] at hs
    cases hs
  · rename_i hs
    rw [if_neg hs] at h
    exact h1.2 h
theorem adv_text (st : RS) : Adv st st.text.2 := by
  refine ⟨RS.text_s st, fun h => ?_⟩
  unfold RS.text at h ⊢
  cases hb : st.bin.2.e with
  | some f => rw [hb] at h; simp only at h; rw [hb] at h; cases h
  | none =>
    rw [hb] at h
    simp only at h ⊢
    cases hu : uCheck st.bin.1 with
    | some f => rw [hu] at h; cases h
    | none => exact (adv_bin st).2 hb
theorem adv_var (st : RS) : Adv st st.var.2 ∧ (st.var.2.e = none → st.at_ < st.var.2.at_) := by
  unfold RS.var
  cases he : st.e with
  | some f => exact ⟨Adv.refl st, fun h => by rw [he] at h; cases h⟩
  | none =>
    simp only
    cases hv : vtake (st.s.extract st.at_ st.s.size) with
    | error f => exact ⟨⟨rfl, fun h => by cases h⟩, fun h => by cases h⟩
    | ok x =>
      obtain ⟨n, k⟩ := x
      have hb := vtk_bound _ _ _ _ _ (by simp) hv
      exact ⟨⟨rfl, fun _ => ⟨he, by simp only; omega⟩⟩, fun _ => by simp only; omega⟩
theorem adv_value (st : RS) (id : Int) : Adv st (pValue st id).2 := by
  unfold pValue
  split
  · exact adv_num _ _
  split
  · exact adv_num _ _
  split
  · exact adv_num _ _
  split
  · exact (adv_var _).1
  split
  · exact adv_bin _
  split
  · exact (adv_text _).trans (adv_text _)
  split
  · exact adv_text _
  · exact Adv.refl _
theorem pOne_adv {st : RS} {place : Int} {l : List Pr} {p : Pr} {st' : RS} (h : pOne st place l = ((p, none), st')) : st'.s = st.s ∧ st'.e = none ∧ st.at_ < st'.at_ ∧ l.length < 64 := by
  unfold pOne at h
  cases hv : st.var.2.e with
  | some f => rw [hv] at h; simp at h
  | none =>
    rw [hv] at h
    simp only at h
    cases hg : pGround place l st.var.1 st.at_ with
    | some f => rw [hg] at h; simp at h
    | none =>
      rw [hg] at h
      simp only at h
      cases hw : (pValue st.var.2 st.var.1).2.e with
      | some f => rw [hw] at h; simp at h
      | none =>
        rw [hw] at h
        simp only [Prod.mk.injEq] at h
        obtain ⟨_, rfl⟩ := h
        have a := adv_value st.var.2 st.var.1
        refine ⟨a.1.trans (RS.var_s st), hw, Nat.lt_of_lt_of_le ((adv_var st).2 hv) (a.2 hw).2, ?_⟩
        unfold pGround at hg
        split at hg
        · cases hg
        · omega

def pLoop : Nat → RS → Int → List Pr → Except Flt (List Pr)
  | 0, _, _, l => .ok l
  | n + 1, st, place, l =>
    if st.left = 0 then .ok l
    else match (pOne st place l).1.2 with
      | none => pLoop n (pOne st place l).2 place (l ++ [(pOne st place l).1.1])
      | some f => .error f
/-- prop.Read -/
def pRead (st : RS) (place : Int) : Except Flt (List Pr) × RS :=
  let x := st.var.2.raw st.var.1
  match x.2.e with
  | some f => (.error f, x.2)
  | none =>
    match pLoop x.1.size ⟨x.1, 0, none⟩ place [] with
    | .ok l => (.ok l, x.2)
    | .error f => (.error (deeperS f ((x.2.at_ : Int) - x.1.size)), x.2)
end Go.Proofs.YthokkjdolcfhcaaGreatDoor

set_option linter.unusedVariables false
namespace Go.Proofs.YthokkjdolcfhcaaGreatDoor
open Go.RowKit

theorem info_prop : (Tryz.prog.info? 152).map (fun i => (i.zero, i.size, i.bytes)) = some (some (.agg #[.int .i64 0, .int .i64 0, .string ⟨#[]⟩, .string ⟨#[]⟩]), 4, 48) := by kernel_rfl

/-- what is left of the reader in block g, as its cells tell -/
def leftOf (g : Nat) (w : World) : Nat :=
  match w.cell? ⟨g, 0, none⟩, w.cell? ⟨g, 1, none⟩ with
  | some (.string s), some (.int _ a) => s.size - a.toNat
  | _, _ => 0
theorem Rd.leftOf {b : Nat} {σ : Nat → Addr} {w : World} {g : Nat} {st : RS} (h : Rd b σ w g st) : leftOf g w = st.left := by
  obtain ⟨v, hb, _⟩ := h
  unfold Go.Proofs.YthokkjdolcfhcaaGreatDoor.leftOf
  rw [hb.cell 0, hb.cell 1]
  simp [RS.left]

theorem raw_got (st : RS) (n : Int) : (st.raw n).1.size ≤ (st.raw n).2.at_ ∨ (st.raw n).2.e ≠ none := by
  unfold RS.raw
  cases he : st.e with
  | some f => right; simp only; rw [he]; simp
  | none =>
    simp only
    split
    · right; simp [RS.fail]
    · split
      · right; simp [RS.fail]
      · left; simp only [ByteArray.size_extract]; omega
theorem Rd.keep_none {b : Nat} {σ : Nat → Addr} {w w' : World} {g : Nat} {st : RS} {S : Nat → Prop} (h : Rd b σ w g st) (he : st.e = none) (k : Keep S w w') (hg : ¬ S g) : Rd b σ w' g st := by
  obtain ⟨v, hb, hE, h1, h2⟩ := h
  refine ⟨v, k.blk hb hg, ?_, h1, h2⟩
  rw [he] at hE ⊢
  exact hE
theorem pLoop_zero {n : Nat} {st : RS} {place : Int} {l : List Pr} (h : st.left = 0) : pLoop n st place l = .ok l := by
  cases n with
  | zero => rfl
  | succ n => rw [pLoop, if_pos h]

def ReadPost (b : Nat) (σ : Nat → Addr) (g : Nat) (x : Except Flt (List Pr) × RS) (w : World) (e : Ending) (w' : World) : Prop :=
  Rd b σ w' g x.2 ∧ Only g w w' ∧
    match x.1 with
    | .ok l => ∃ v, e = .returned (.tuple #[v, .nilIface]) ∧ w'.ownsRow w.heap.size 152 4 v l.length (prRow l) ∧ l.length ≤ 64
    | .error f => ∃ v, e = .returned (.tuple #[.slice none 0 0, v]) ∧ Er σ w' v (some f)

/-- the loop's relation -/
def Loops (b : Nat) (σ : Nat → Addr) (g g2 : Nat) (place : Int) (r : Except Flt (List Pr)) (sx : RS) (w : World) (base : Nat) (v : Value) (wr : World) : Prop :=
  ∃ (st : RS) (l : List Pr) (n : Nat), wr.ownsRow base 152 4 v l.length (prRow l) ∧ Rd b σ wr g2 st ∧ Rd b σ wr g sx ∧ Gl b σ wr ∧ Only g w wr ∧ l.length ≤ 64 ∧ st.left ≤ n ∧ r = pLoop n st place l ∧ st.e = none ∧ base ≤ wr.heap.size

set_option maxRecDepth 100000 in
set_option maxHeartbeats 2000000 in
theorem p_read (b : Nat) (σ : Nat → Addr) (g : Nat) (st : RS) (place : Int) (w : World) (hG : Gl b σ w) (hR : Rd b σ w g st) :
    Calls Tryz.prog 88 #[.pointer (some ⟨g, 0, none⟩), .int .i64 place] w (ReadPost b σ g (pRead st place) w) := by
  obtain ⟨i0, hi0, hz0, hz1, hz2⟩ := info_parts info_prop
  have HI0 : Hid (Tryz.prog.info? 152 = some i0) := hi0
  have HI1 := Lib.hid hz0
  have HI2 := Lib.hid hz1
  have HI3 := Lib.hid hz2
  have hsz : (st.var.2.raw st.var.1).1.size ≤ 140737488351232 := by
    have h1 := RS.raw_le st.var.2 st.var.1
    rw [RS.var_s] at h1
    have := hR.okk.2
    omega
  have HG := Lib.hid hG
  have HR := Lib.hid hR
  clear hi0 hz0 hz1 hz2 hG hR
  go_enter Tryz.func88, Tryz.ntmps88
  go_wp2_with fail
  refine (r_var b σ g st w HG.out HR.out).mono ?_; rintro e w1 ⟨rfl, h1, h2⟩
  have HR1 := Lib.hid h1
  have HG1 := Lib.hid (HG.out.only h2 h1)
  have HP1 := Lib.hid h2
  clear h1 h2
  go_wp2_with fail
  refine (r_raw b σ g _ _ w1 HG1.out HR1.out).mono ?_; rintro e w2 ⟨rfl, h1, h2⟩
  have HR2 := Lib.hid h1
  have HG2 := Lib.hid (HG1.out.only h2 h1)
  have HP2 := Lib.hid (HP1.out.trans h2)
  clear h1 h2
  have HX : Hid (∀ x, x = st.var.2.raw st.var.1 → pRead st place = match x.2.e with
    | some f => (.error f, x.2)
    | none =>
      match pLoop x.1.size ⟨x.1, 0, none⟩ place [] with
      | .ok l => (.ok l, x.2)
      | .error f => (.error (deeperS f ((x.2.at_ : Int) - x.1.size)), x.2)) := fun x hx => by subst hx; rfl
  have HX0 := Lib.hid (HX.out _ rfl)
  have hat : (st.var.2.raw st.var.1).1.size ≤ (st.var.2.raw st.var.1).2.at_ ∨ (st.var.2.raw st.var.1).2.e ≠ none := raw_got _ _
  clear HX
  generalize st.var.2.raw st.var.1 = x at *
  obtain ⟨s, sx⟩ := x
  simp only at *
  go_wp2_with fail
  refine (r_err b σ g _ w2 HR2.out).mono ?_; rintro e w' ⟨v, rfl, hE, rfl⟩
  cases hxe : sx.e with
  | some f =>
    have HV : Hid (pRead st place = (.error f, sx)) := by show _ = _; rw [HX0.out, hxe]
    rw [hxe] at hE
    have HE := Lib.hid hE
    obtain ⟨_, g', x, rfl, _⟩ := hE.some_
    clear hxe hE hat
    go_wp2_with fail
    go_ret2
    unfold ReadPost
    rw [HV.out]
    exact ⟨HR2.out, HP2.out, _, rfl, HE.out⟩
  | none =>
    have hat2 : (s.size : Int) ≤ sx.at_ := by
      rcases hat with h | h
      · omega
      · exact absurd hxe h
    have hat3 : (sx.at_ : Int) ≤ 140737488351232 := by have := HR2.out.okk; have h1 := this.1; have h2 := this.2; omega
    rw [hxe] at hE
    simp only [Er] at hE
    subst hE
    have HXE := Lib.hid hxe
    clear hxe hat
    go_wp2_with fail
    refine (r_at b σ g _ w2 HR2.out).mono ?_; rintro e w' ⟨rfl, rfl⟩
    go_wp2_with fail
    refine (new_reader b σ s w2 HG2.out hsz).mono ?_; rintro e w3 ⟨g2, rfl, hR3, hg2, hP3⟩
    have HR3 := Lib.hid hR3
    have HG3 := Lib.hid (HG2.out.pure hP3)
    have HRX3 := Lib.hid (HR2.out.pure hP3)
    have HP3 := Lib.hid (HP2.out.trans (Keep.of_pure hP3))
    have HG2S : Hid (w.heap.size ≤ g2 ∧ g ≠ g2 ∧ g2 < w3.heap.size) := by
      refine ⟨by rw [hg2]; exact HP2.out.size, ?_, ?_⟩
      · obtain ⟨v, hb, _⟩ := HR2.out
        have := hb.lt
        omega
      · obtain ⟨v, hb, _⟩ := hR3
        exact hb.lt
    have HXL : Hid (pRead st place = match pLoop s.size ⟨s, 0, none⟩ place [] with
      | .ok l => (.ok l, sx)
      | .error f => (.error (deeperS f ((sx.at_ : Int) - s.size)), sx)) := by show _ = _; rw [HX0.out, HXE.out]
    clear hR3 hg2 hP3 HX0
    have HSTART : Hid (Loops b σ g g2 place (pLoop s.size ⟨s, 0, none⟩ place []) sx w w3.heap.size (.slice none 0 0) w3) :=
      ⟨⟨s, 0, none⟩, [], s.size, ⟨by simp [prRow], .inl ⟨rfl, rfl⟩⟩, HR3.out, HRX3.out, HG3.out, HP3.out, by simp, by simp [RS.left], rfl, rfl, Nat.le_refl _⟩
    generalize pLoop s.size ⟨s, 0, none⟩ place [] = r at *
    go_wp2_with fail
    go_loopw [10] (fun v wr => Hid (Loops b σ g g2 place r sx w w3.heap.size v wr)) (fun _ wr => leftOf g2 wr)
    case atStart => exact HSTART
    case round =>
      obtain ⟨sp, l, n, hown, hRp, hRX, hGr, hPr, hl64, hleft, hr, hse, hbs⟩ := hrel
      have HRp := Lib.hid hRp
      have HRX := Lib.hid hRX
      have HGr := Lib.hid hGr
      have HPr := Lib.hid hPr
      have HOr := Lib.hid hown
      have HM : Hid (leftOf g2 wr = sp.left) := hRp.leftOf
      have hbase : w3.heap.size ≤ wr.heap.size := hbs
      by_cases hl0 : sp.left = 0
      · have HV : Hid (pRead st place = (.ok l, sx)) := by show _ = _; rw [HXL.out, hr, pLoop_zero hl0]
        have HL0 := Lib.hid hl0
        clear hr hl0 hown hRp hRX hGr hPr hleft hse
        go_wp2_with fail
        refine (r_left b σ g2 _ wr HRp.out).mono ?_; rintro e w4 ⟨rfl, hP⟩
        have HP4 := Lib.hid hP
        clear hP
        rw [HL0.out]
        go_wp2_with fail
        go_ret2
        unfold ReadPost
        rw [HV.out]
        refine ⟨HRX.out.pure HP4.out, HPr.out.trans (Keep.of_pure HP4.out), _, rfl, ?_, hl64⟩
        exact own_low (HP4.out.own HOr.out fun _ _ hf => hf) HP3.out.size
      · have hlp : (0 : Int) < (sp.left : Int) := by omega
        obtain ⟨m, rfl⟩ : ∃ m, n = m + 1 := ⟨n - 1, by omega⟩
        have HRR : Hid (∀ y, y = pOne sp place l → r = match y.1.2 with
          | none => pLoop m y.2 place (l ++ [y.1.1])
          | some f => .error f) := fun y hy => by subst hy; (rw [hr, pLoop, if_neg hl0]) <;> rfl
        have HRY := Lib.hid (HRR.out _ rfl)
        have HAD : Hid (∀ p st', pOne sp place l = ((p, none), st') → st'.s = sp.s ∧ st'.e = none ∧ sp.at_ < st'.at_ ∧ l.length < 64) := fun p st' h => pOne_adv h
        have HLE := Lib.hid hleft
        have hl47 : l.length ≤ 140737488351232 := by omega
        obtain ⟨A, c, rfl⟩ := own_shape hown
        have hlp2 : (0 : Int) < (sp.left : Int) := hlp
        clear hr hl0 hown hRp hRX hGr hPr hleft hse HRR
        go_wp2_with fail
        refine (r_left b σ g2 _ wr HRp.out).mono ?_; rintro e w4 ⟨rfl, hP⟩
        have HP4 := Lib.hid (HPr.out.trans (Keep.of_pure hP))
        have HRp4 := Lib.hid (HRp.out.pure hP)
        have HRX4 := Lib.hid (HRX.out.pure hP)
        have HG4 := Lib.hid (HGr.out.pure hP)
        have HO4 := Lib.hid (hP.own HOr.out fun _ _ hf => hf)
        have hb4 : w3.heap.size ≤ w4.heap.size := Nat.le_trans hbase hP.size
        clear hP
        go_wp2_with fail
        refine (p_one b σ g2 sp place _ c A l w4 HG4.out HRp4.out HO4.out hl47).mono ?_; rintro e w5 ⟨v, rfl, hE, hRp5, hO5⟩
        have HRX5 : Hid (Rd b σ w5 g sx) := by
          obtain ⟨x, hb, he, h1, h2⟩ := HRX4.out
          obtain ⟨y, hb2, _⟩ := HRp4.out
          exact ⟨x, hO5.blk hb HG2S.out.2.1, he.only hO5 hb2 (by decide), h1, h2⟩
        have HRp5 := Lib.hid hRp5
        have HG5 := Lib.hid (HG4.out.only hO5 hRp5)
        have HP5 : Hid (Only g w w5) := HP4.out.seq hO5 fun i hi => .inr (by have := HG2S.out.1; omega)
        have HO5 := Lib.hid (own_rd HO4.out hO5 HRp4.out (by decide))
        have hb5 : w3.heap.size ≤ w5.heap.size := Nat.le_trans hb4 hO5.size
        clear hRp5 hO5
        generalize hy : pOne sp place l = y at *
        obtain ⟨⟨p, fo⟩, sp'⟩ := y
        obtain ⟨pid, pn, ps, pv⟩ := p
        simp only [prVal] at *
        cases fo with
        | some f =>
          have HV : Hid (pRead st place = (.error (deeperS f ((sx.at_ : Int) - s.size)), sx)) := by show _ = _; rw [HXL.out, HRY.out]
          have HE := Lib.hid hE
          obtain ⟨_, g', x, rfl, hc, _⟩ := hE.some_
          have HC := Lib.hid hc
          have HOK := Lib.hid hE.1
          clear hE hc hy
          go_wp2_with fail
          refine (deeper_some σ b g' f _ _ (HG5.out.alloc _) (HC.out.keep ((Keep.refl (fun _ => False) _).alloc _) fun _ _ _ hf => hf)).mono ?_; rintro e w6 ⟨g6, rfl, hc6, hP6⟩
          have HP6 : Hid (Pure w5 w6) := ((Keep.refl _ w5).alloc _).trans hP6
          have HC6 := Lib.hid hc6
          clear hP6 hc6
          go_wp2_with fail
          go_ret2
          unfold ReadPost
          rw [HV.out]
          exact ⟨HRX5.out.pure HP6.out, HP5.out.trans (Keep.of_pure HP6.out), _, rfl, HOK.out, _, rfl, HC6.out⟩
        | none =>
          obtain ⟨had1, had2, had3, had4⟩ := HAD.out _ _ rfl
          have HA1 : Hid (sp'.s = sp.s ∧ sp'.e = none) := ⟨had1, had2⟩
          simp only [Er] at hE
          subst hE
          clear hy had1 had2
          have HPp : Hid (Pure w5 ((w5.alloc (.cells #[.int .i64 pid, .int .i64 pn, .string ps, .string pv] 152)).alloc (.cells #[.int .i64 pid, .int .i64 pn, .string ps, .string pv] 152))) := ((Keep.refl _ w5).alloc _).alloc _
          have HBn : Hid (Blk ((w5.alloc (.cells #[.int .i64 pid, .int .i64 pn, .string ps, .string pv] 152)).alloc (.cells #[.int .i64 pid, .int .i64 pn, .string ps, .string pv] 152)) (w5.heap.size + 1) 152 #[.int .i64 pid, .int .i64 pn, .string ps, .string pv]) := (blk_two w5 152 #[.int .i64 pid, .int .i64 pn, .string ps, .string pv] #[.int .i64 pid, .int .i64 pn, .string ps, .string pv]).2.1
          have HO7 : Hid (World.ownsRow ((w5.alloc (.cells #[.int .i64 pid, .int .i64 pn, .string ps, .string pv] 152)).alloc (.cells #[.int .i64 pid, .int .i64 pn, .string ps, .string pv] 152)) w3.heap.size 152 4 (.slice A l.length c) l.length (prRow l)) := HPp.out.own HO5.out fun _ _ hf => hf
          have hb7 : w3.heap.size ≤ ((w5.alloc (.cells #[.int .i64 pid, .int .i64 pn, .string ps, .string pv] 152)).alloc (.cells #[.int .i64 pid, .int .i64 pn, .string ps, .string pv] 152)).heap.size := Nat.le_trans hb5 HPp.out.size
          have HB7 := Lib.hid hb7
          clear hb7
          go_wp2_with (at_builtin; refine wpList_append_own _ rfl (.tmp 44) (.tmp 46) 23 rfl w3.heap.size 152 i0 (.agg #[.int .i64 0, .int .i64 0, .string ⟨#[]⟩, .string ⟨#[]⟩]) 4 48 Tryz.underlying23 HI0.out HI1.out HI2.out HI3.out rfl (by decide) (.slice A l.length c) l.length (prRow l) rfl HO7.out ⟨w5.heap.size + 1, 0, none⟩ 1 1 (prCells ⟨pid, pn, ps, pv⟩) rfl rfl ?news ?one ?mx ?bb ?bs ?k)
          case mx => unfold maxLen; omega
          case bb => omega
          case bs => have h := HB7.out; simpa using h
          case news => intro j u hu; exact hu
          case one => intro u hu; simp [prCells] at hu; rcases hu with rfl | rfl | rfl | rfl <;> rfl
          case k =>
            intro v' w8 hown8 hgrow _
            go_wp2_with fail
            have hS0 := HG3.out.size
            have K8 : Keep (fun k => w3.heap.size ≤ k) w5 w8 := (Keep.of_pure HPp.out).grown hgrow fun k hk => .inl (own_ge HO7.out k hk)
            have hg2 := HG2S.out
            have hgx : g < w3.heap.size := by
              obtain ⟨x, hb, _⟩ := HRX3.out
              exact hb.lt
            have hRp8 : Rd b σ w8 g2 sp' := HRp5.out.keep_none HA1.out.2 K8 (by omega)
            have hRX8 : Rd b σ w8 g sx := HRX5.out.keep_none HXE.out K8 (by omega)
            have hsl : (prRow (l ++ [⟨pid, pn, ps, pv⟩])) = prRow l ++ prCells ⟨pid, pn, ps, pv⟩ := by simp [prRow]
            have hle := HLE.out
            have hss := HA1.out.1
            have hleft : sp'.left < sp.left := by
              unfold RS.left at hlp hlp2 ⊢
              rw [hss]
              omega
            refine ⟨⟨sp', l ++ [⟨pid, pn, ps, pv⟩], m, ?_, hRp8, hRX8, HG5.out.keep K8 (fun i hi => by omega), HP5.out.seq K8 (fun i hi => .inr (by have := HP3.out.size; omega)), by simp; omega, by omega, HRY.out, HA1.out.2, by have := K8.size; omega⟩, ?_⟩
            · rw [hsl]
              simpa using hown8
            · rw [HM.out, hRp8.leftOf]
              exact hleft
end Go.Proofs.YthokkjdolcfhcaaGreatDoor

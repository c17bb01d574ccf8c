/- Package prop: Check. Package prop: write. Package prop: Encode. -/
import Derived.Test.YthokkjdolcfhcaaGreatDoorMf
import Derived.Test.YthokkjdolcfhcaaGreatDoorMh

set_option linter.unusedVariables false
namespace Go.Proofs.YthokkjdolcfhcaaGreatDoor
open Go.RowKit

/-- prop.Check, from some place on -/
def pCheck (place : Int) : List Pr → List Pr → Option Flt
  | _, [] => none
  | ahead, p :: r =>
    match pGround place ahead p.id ahead.length with
    | some f => some f
    | none =>
      match pBad p ahead.length with
      | some f => some f
      | none => pCheck place (ahead ++ [p]) r

theorem p_ground_n (b : Nat) (σ : Nat → Addr) (place : Int) (A : Option Addr) (n c B : Nat) (l : List Pr) (id at_ : Int) (hn : l.length = n) (w : World) (hG : Gl b σ w) (hr : Reads w B 4 A l.length (prRow l)) (hB : B ≤ w.heap.size) (hl0 : l.length ≤ 140737488351232) :
    Calls Tryz.prog 212 #[.int .i64 place, .slice A n c, .int .i64 id, .int .i64 at_] w (ErPost σ (pGround place l id at_) w) := by
  subst hn
  exact p_ground b σ place A c B l id at_ w hG hr hB hl0
theorem pCheck_step {place : Int} {l : List Pr} {k : Nat} (hk : k < l.length) :
    pCheck place (l.take k) (l.drop k) = match pGround place (l.take k) l[k].id k with
      | some f => some f
      | none =>
        match pBad l[k] k with
        | some f => some f
        | none => pCheck place (l.take (k + 1)) (l.drop (k + 1)) := by
  rw [List.drop_eq_getElem_cons hk, pCheck]
  have h1 : (l.take k).length = k := by simp; omega
  rw [h1, ← List.take_succ_eq_append_getElem hk]
theorem prRow_take (l : List Pr) (k : Nat) : prRow (l.take k) = (prRow l).take (k * 4) := by
  induction l generalizing k with
  | nil => simp [prRow]
  | cons p l ih =>
    cases k with
    | zero => simp [prRow]
    | succ k =>
      have h : prRow (p :: l) = prCells p ++ prRow l := by simp [prRow]
      have h2 : prRow (p :: l.take k) = prCells p ++ prRow (l.take k) := by simp [prRow]
      rw [List.take_succ_cons, h, h2, ih, Nat.succ_mul, List.take_append]
      have hc : (prCells p).length = 4 := rfl
      rw [hc, List.take_of_length_le (l := prCells p) (by rw [hc]; omega), Nat.add_sub_cancel]
theorem Reads.take {w : World} {B : Nat} {A : Option Addr} {l : List Pr} (h : Reads w B 4 A l.length (prRow l)) (k : Nat) (hk : k ≤ l.length) : Reads w B 4 A (l.take k).length (prRow (l.take k)) := by
  have hkl : (l.take k).length = k := by simp; omega
  refine ⟨by rw [prRow_take, List.length_take, h.1, hkl]; omega, fun hn => ?_⟩
  obtain ⟨ad, e, hb, hc⟩ := h.2 (by omega)
  refine ⟨ad, e, hb, fun j u hu => hc j u ?_⟩
  rw [prRow_take, List.getElem?_take] at hu
  split at hu
  · exact hu
  · cases hu

set_option maxRecDepth 100000 in
set_option maxHeartbeats 1000000 in
theorem p_check (b : Nat) (σ : Nat → Addr) (place : Int) (A : Option Addr) (c B : Nat) (l : List Pr) (w : World) (hG : Gl b σ w) (hr : Reads w B 4 A l.length (prRow l)) (hB : B ≤ w.heap.size) (hl : l.length ≤ 140737488351232) (hc : l.length ≤ c) :
    Calls Tryz.prog 149 #[.int .i64 place, .slice A l.length c] w (ErPost σ (pCheck place [] l) w) := by
  have HG := Lib.hid hG
  have HRR := Lib.hid hr
  have H0 : Hid (pCheck place [] l = pCheck place (l.take 0) (l.drop 0)) := by show _ = _; simp
  clear hG hr
  go_enter Tryz.func149, Tryz.ntmps149
  go_wp2_with fail
  go_loopw [11] (fun i wr => ∃ k : Nat, k ≤ l.length ∧ i = .int .i64 k ∧ Hid (pCheck place [] l = pCheck place (l.take k) (l.drop k)) ∧ Hid (Pure w wr)) (fun i _ => l.length - (intOf i).toNat)
  case atStart => exact ⟨0, by omega, rfl, H0.out, Keep.refl _ _⟩
  case round =>
    obtain ⟨k, hk, rfl, HN, HP⟩ := hrel
    by_cases hlt : k < l.length
    · have hrr := HRR.out.pure HP.out hB
      obtain ⟨ad, rfl, hadB, d0, d1, d2, d3⟩ := hrr.pr k hlt
      have HT := Lib.hid (hrr.take k hk)
      have HS := Lib.hid ((HN.out).trans (pCheck_step hlt))
      have HGr := Lib.hid (HG.out.pure HP.out)
      have htl : (l.take k).length = k := by simp; omega
      have hBr : B ≤ wr.heap.size := Nat.le_trans hB HP.out.size
      have hkc : (k : Int) ≤ (c : Int) := by omega
      have hkc2 : k ≤ c := by omega
      clear hrr HN
      generalize l[k] = p at *
      have HP4 : Hid (Pure w (wr.alloc (.cells #[.int .i64 p.id, .int .i64 p.n, .string p.s, .string p.v] 152))) := HP.out.alloc _
      have HG4 := Lib.hid (HGr.out.alloc (.cells #[.int .i64 p.id, .int .i64 p.n, .string p.s, .string p.v] 152))
      have HT4 := Lib.hid (HT.out.alloc hBr (.cells #[.int .i64 p.id, .int .i64 p.n, .string p.s, .string p.v] 152))
      have HB4 : Hid (Blk (wr.alloc (.cells #[.int .i64 p.id, .int .i64 p.n, .string p.s, .string p.v] 152)) wr.heap.size 152 #[.int .i64 p.id, .int .i64 p.n, .string p.s, .string p.v]) := Blk.new _ _ _
      have hBs4 : B ≤ (wr.alloc (.cells #[.int .i64 p.id, .int .i64 p.n, .string p.s, .string p.v] 152)).heap.size := Nat.le_trans hBr (by simp)
      have HBs4 := Lib.hid hBs4
      clear hBs4
      go_upto_region 4 with fail
      generalize wr.alloc (.cells #[.int .i64 p.id, .int .i64 p.n, .string p.s, .string p.v] 152) = w4 at *
      have c4 := HB4.out.cell 0
      simp at c4
      go_cut [7] (fun s7 wx => Hid (Er σ wx s7 (pGround place (l.take k) p.id k)) ∧ Hid (Pure w4 wx))
      case first =>
        go_region_with (go_at_call 212; refine (p_ground_n b σ place (some ad) k c B (l.take k) p.id k htl _ (by exact HG4.out.drew) (by exact HT4.out) (by exact HBs4.out) (by rw [htl]; omega)).mono ?_; rintro e w5 ⟨v, rfl, hE, hP⟩; have HE := Lib.hid hE; have HPx := Lib.hid hP; clear hE hP)
        all_goals
          go_wp2_with fail
          go_meet
          exact ⟨HE, ((Keep.refl _ w4).drew).trans HPx.out⟩
      case rest =>
        obtain ⟨HE, HPx⟩ := hcut
        have HBc := Lib.hid (HPx.out.blk HB4.out fun hf => hf)
        have HPc := Lib.hid (HP4.out.trans HPx.out)
        have HGc := Lib.hid (HG4.out.pure HPx.out)
        have e0 := HBc.out.cell 0
        have e1 := HBc.out.cell 1
        have e2 := HBc.out.cell 2
        have e3 := HBc.out.cell 3
        simp at e0 e1 e2 e3
        clear c4
        have hE := HE.out
        cases hg : pGround place (l.take k) p.id k with
        | some f =>
          have HV : Hid (pCheck place [] l = some f) := by show _ = _; rw [HS.out, hg]
          rw [hg] at hE
          have HEf := Lib.hid hE
          obtain ⟨_, g', rfl, _⟩ := hE
          clear hg
          go_wp2_with fail
          go_ret
          rw [HV.out]
          exact ⟨_, rfl, HEf.out, HPc.out⟩
        | none =>
          rw [hg] at hE
          simp only [Er] at hE
          subst hE
          have HS2 : Hid (pCheck place [] l = match pBad p k with
            | some f => some f
            | none => pCheck place (l.take (k + 1)) (l.drop (k + 1))) := by show _ = _; rw [HS.out, hg]
          clear hg
          go_wp2_with fail
          refine (p_bad b σ p k wc HGc.out).mono ?_; rintro e w6 ⟨v, rfl, hE, hP⟩
          have HP6 := Lib.hid (HPc.out.trans hP)
          clear hP
          cases hb : pBad p k with
          | some f =>
            have HV : Hid (pCheck place [] l = some f) := by show _ = _; rw [HS2.out, hb]
            rw [hb] at hE
            have HEf := Lib.hid hE
            obtain ⟨_, g', rfl, _⟩ := hE
            clear hb
            go_wp2_with fail
            go_ret
            rw [HV.out]
            exact ⟨_, rfl, HEf.out, HP6.out⟩
          | none =>
            rw [hb] at hE
            simp only [Er] at hE
            subst hE
            have HV : Hid (pCheck place [] l = pCheck place (l.take (k + 1)) (l.drop (k + 1))) := by show _ = _; rw [HS2.out, hb]
            clear hb
            go_wp2_with fail
            go_roundw
            case rel => exact ⟨k + 1, by omega, by go_num, HV, HP6⟩
            case measure => simp [intOf]; omega
    · obtain rfl : k = l.length := by omega
      have HV : Hid (pCheck place [] l = none) := by show _ = _; rw [HN.out]; simp [pCheck]
      clear hlt
      go_wp2_with fail
      go_ret
      rw [HV.out]
      exact ⟨_, rfl, rfl, HP.out⟩
end Go.Proofs.YthokkjdolcfhcaaGreatDoor

set_option linter.unusedVariables false
namespace Go.Proofs.YthokkjdolcfhcaaGreatDoor
open Go.RowKit

/-- prop.write -/
def pWrite (ws : WS) (p : Pr) : WS :=
  if pType p.id = 1 then (ws.var p.id).num 1 p.n
  else if pType p.id = 2 then (ws.var p.id).num 2 p.n
  else if pType p.id = 4 then (ws.var p.id).num 4 p.n
  else if pType p.id = 5 then (ws.var p.id).var p.n
  else if pType p.id = 7 then (ws.var p.id).bin p.s
  else if pType p.id = 9 then ((ws.var p.id).text p.s).text p.v
  else if pType p.id = 6 then (ws.var p.id).text p.s
  else ws.var p.id

theorem pWrite_size (ws : WS) (p : Pr) : (pWrite ws p).all.size ≤ ws.all.size + p.s.size + p.v.size + 8 := by
  have h0 := WS.var_size ws p.id
  have h1 := WS.num_size (ws.var p.id) 1 p.n
  have h2 := WS.num_size (ws.var p.id) 2 p.n
  have h3 := WS.num_size (ws.var p.id) 4 p.n
  have h4 := WS.var_size (ws.var p.id) p.n
  have h5 := WS.bin_size (ws.var p.id) p.s
  have h6 := WS.text_size (ws.var p.id) p.s
  have h7 := WS.text_size ((ws.var p.id).text p.s) p.v
  unfold pWrite
  repeat' split
  all_goals omega

set_option maxRecDepth 100000 in
set_option maxHeartbeats 1000000 in
theorem p_write_1 (b : Nat) (σ : Nat → Addr) (g : Nat) (ws : WS) (p : Pr) (hl : ws.all.size + p.s.size + p.v.size + 8 ≤ 140737488351232) (w : World) (hG : Gl b σ w) (hR : Wr b σ w g ws) (ht : pType p.id = 1) :
    Calls Tryz.prog 150 #[.pointer (some ⟨g, 0, none⟩), .agg #[.int .i64 p.id, .int .i64 p.n, .string p.s, .string p.v]] w fun e w' => e = .returned (.tuple #[]) ∧ Wr b σ w' g (pWrite ws p) ∧ From g w w' := by
  have HG := Lib.hid hG
  have HR := Lib.hid hR
  have HT := Lib.hid ht
  have HV : Hid (pWrite ws p = (ws.var p.id).num 1 p.n) := by show _ = _; unfold pWrite; rw [ht]; rfl
  have hz := WS.var_size ws p.id
  have hz2 := WS.text_size (ws.var p.id) p.s
  have hlt : g < w.heap.size := by obtain ⟨v, x, hb, _⟩ := hR; exact hb.lt
  have HP1 : Hid (Pure w (w.alloc (.cells #[.int .i64 p.id, .int .i64 p.n, .string p.s, .string p.v] 152))) := (Keep.refl _ w).alloc _
  have HB1 : Hid (Blk (w.alloc (.cells #[.int .i64 p.id, .int .i64 p.n, .string p.s, .string p.v] 152)) w.heap.size 152 #[.int .i64 p.id, .int .i64 p.n, .string p.s, .string p.v]) := Blk.new _ _ _
  have HNE : Hid (w.heap.size ≠ g) := by show _ ≠ _; omega
  clear hG hR ht
  go_enter Tryz.func150, Tryz.ntmps150
  go_wp2_with fail
  generalize w.alloc (.cells #[.int .i64 p.id, .int .i64 p.n, .string p.s, .string p.v] 152) = w1 at *
  have HG1 := Lib.hid (HG.out.pure HP1.out)
  have HR1 := Lib.hid (HR.out.pure HP1.out)
  refine (w_var b σ g ws p.id (by omega) w1 HG1.out HR1.out).mono ?_; rintro e w2 ⟨rfl, h1, h2⟩
  have HR2 := Lib.hid h1
  have HG2 := Lib.hid (HG1.out.from_ h2 h1)
  have HP2 := Lib.hid ((From.of_pure (g := g) HP1.out).trans h2)
  have HB2 := Lib.hid (h2.blk HB1.out HNE.out (by decide))
  have a0 := HB2.out.cell 0
  have a1 := HB2.out.cell 1
  have a2 := HB2.out.cell 2
  have a3 := HB2.out.cell 3
  simp at a0 a1 a2 a3
  clear h1 h2
  go_wp2_with fail
  refine (p_type _ _).mono ?_; rintro e w' ⟨rfl, rfl⟩
  rw [HT.out]
  go_wp2_with fail
  refine (w_u8 b σ g (ws.var p.id) (by omega) p.n w2 HG2.out HR2.out).mono ?_; rintro e w3 ⟨rfl, h1, h2⟩
  have HR3 := Lib.hid h1
  have HG3 := Lib.hid (HG2.out.from_ h2 h1)
  have HP3 := Lib.hid (HP2.out.trans h2)
  have HB3 := Lib.hid (h2.blk HB2.out HNE.out (by decide))
  have a33 := HB3.out.cell 3
  simp at a33
  clear h1 h2
  go_wp2_with fail
  go_end0
  rw [HV.out]
  exact ⟨rfl, HR3.out, HP3.out⟩

set_option maxRecDepth 100000 in
set_option maxHeartbeats 1000000 in
theorem p_write_2 (b : Nat) (σ : Nat → Addr) (g : Nat) (ws : WS) (p : Pr) (hl : ws.all.size + p.s.size + p.v.size + 8 ≤ 140737488351232) (w : World) (hG : Gl b σ w) (hR : Wr b σ w g ws) (ht : pType p.id = 2) :
    Calls Tryz.prog 150 #[.pointer (some ⟨g, 0, none⟩), .agg #[.int .i64 p.id, .int .i64 p.n, .string p.s, .string p.v]] w fun e w' => e = .returned (.tuple #[]) ∧ Wr b σ w' g (pWrite ws p) ∧ From g w w' := by
  have HG := Lib.hid hG
  have HR := Lib.hid hR
  have HT := Lib.hid ht
  have HV : Hid (pWrite ws p = (ws.var p.id).num 2 p.n) := by show _ = _; unfold pWrite; rw [ht]; rfl
  have hz := WS.var_size ws p.id
  have hz2 := WS.text_size (ws.var p.id) p.s
  have hlt : g < w.heap.size := by obtain ⟨v, x, hb, _⟩ := hR; exact hb.lt
  have HP1 : Hid (Pure w (w.alloc (.cells #[.int .i64 p.id, .int .i64 p.n, .string p.s, .string p.v] 152))) := (Keep.refl _ w).alloc _
  have HB1 : Hid (Blk (w.alloc (.cells #[.int .i64 p.id, .int .i64 p.n, .string p.s, .string p.v] 152)) w.heap.size 152 #[.int .i64 p.id, .int .i64 p.n, .string p.s, .string p.v]) := Blk.new _ _ _
  have HNE : Hid (w.heap.size ≠ g) := by show _ ≠ _; omega
  clear hG hR ht
  go_enter Tryz.func150, Tryz.ntmps150
  go_wp2_with fail
  generalize w.alloc (.cells #[.int .i64 p.id, .int .i64 p.n, .string p.s, .string p.v] 152) = w1 at *
  have HG1 := Lib.hid (HG.out.pure HP1.out)
  have HR1 := Lib.hid (HR.out.pure HP1.out)
  refine (w_var b σ g ws p.id (by omega) w1 HG1.out HR1.out).mono ?_; rintro e w2 ⟨rfl, h1, h2⟩
  have HR2 := Lib.hid h1
  have HG2 := Lib.hid (HG1.out.from_ h2 h1)
  have HP2 := Lib.hid ((From.of_pure (g := g) HP1.out).trans h2)
  have HB2 := Lib.hid (h2.blk HB1.out HNE.out (by decide))
  have a0 := HB2.out.cell 0
  have a1 := HB2.out.cell 1
  have a2 := HB2.out.cell 2
  have a3 := HB2.out.cell 3
  simp at a0 a1 a2 a3
  clear h1 h2
  go_wp2_with fail
  refine (p_type _ _).mono ?_; rintro e w' ⟨rfl, rfl⟩
  rw [HT.out]
  go_wp2_with fail
  refine (w_u16 b σ g (ws.var p.id) (by omega) p.n w2 HG2.out HR2.out).mono ?_; rintro e w3 ⟨rfl, h1, h2⟩
  have HR3 := Lib.hid h1
  have HG3 := Lib.hid (HG2.out.from_ h2 h1)
  have HP3 := Lib.hid (HP2.out.trans h2)
  have HB3 := Lib.hid (h2.blk HB2.out HNE.out (by decide))
  have a33 := HB3.out.cell 3
  simp at a33
  clear h1 h2
  go_wp2_with fail
  go_end0
  rw [HV.out]
  exact ⟨rfl, HR3.out, HP3.out⟩

set_option maxRecDepth 100000 in
set_option maxHeartbeats 1000000 in
theorem p_write_4 (b : Nat) (σ : Nat → Addr) (g : Nat) (ws : WS) (p : Pr) (hl : ws.all.size + p.s.size + p.v.size + 8 ≤ 140737488351232) (w : World) (hG : Gl b σ w) (hR : Wr b σ w g ws) (ht : pType p.id = 4) :
    Calls Tryz.prog 150 #[.pointer (some ⟨g, 0, none⟩), .agg #[.int .i64 p.id, .int .i64 p.n, .string p.s, .string p.v]] w fun e w' => e = .returned (.tuple #[]) ∧ Wr b σ w' g (pWrite ws p) ∧ From g w w' := by
  have HG := Lib.hid hG
  have HR := Lib.hid hR
  have HT := Lib.hid ht
  have HV : Hid (pWrite ws p = (ws.var p.id).num 4 p.n) := by show _ = _; unfold pWrite; rw [ht]; rfl
  have hz := WS.var_size ws p.id
  have hz2 := WS.text_size (ws.var p.id) p.s
  have hlt : g < w.heap.size := by obtain ⟨v, x, hb, _⟩ := hR; exact hb.lt
  have HP1 : Hid (Pure w (w.alloc (.cells #[.int .i64 p.id, .int .i64 p.n, .string p.s, .string p.v] 152))) := (Keep.refl _ w).alloc _
  have HB1 : Hid (Blk (w.alloc (.cells #[.int .i64 p.id, .int .i64 p.n, .string p.s, .string p.v] 152)) w.heap.size 152 #[.int .i64 p.id, .int .i64 p.n, .string p.s, .string p.v]) := Blk.new _ _ _
  have HNE : Hid (w.heap.size ≠ g) := by show _ ≠ _; omega
  clear hG hR ht
  go_enter Tryz.func150, Tryz.ntmps150
  go_wp2_with fail
  generalize w.alloc (.cells #[.int .i64 p.id, .int .i64 p.n, .string p.s, .string p.v] 152) = w1 at *
  have HG1 := Lib.hid (HG.out.pure HP1.out)
  have HR1 := Lib.hid (HR.out.pure HP1.out)
  refine (w_var b σ g ws p.id (by omega) w1 HG1.out HR1.out).mono ?_; rintro e w2 ⟨rfl, h1, h2⟩
  have HR2 := Lib.hid h1
  have HG2 := Lib.hid (HG1.out.from_ h2 h1)
  have HP2 := Lib.hid ((From.of_pure (g := g) HP1.out).trans h2)
  have HB2 := Lib.hid (h2.blk HB1.out HNE.out (by decide))
  have a0 := HB2.out.cell 0
  have a1 := HB2.out.cell 1
  have a2 := HB2.out.cell 2
  have a3 := HB2.out.cell 3
  simp at a0 a1 a2 a3
  clear h1 h2
  go_wp2_with fail
  refine (p_type _ _).mono ?_; rintro e w' ⟨rfl, rfl⟩
  rw [HT.out]
  go_wp2_with fail
  refine (w_u32 b σ g (ws.var p.id) (by omega) p.n w2 HG2.out HR2.out).mono ?_; rintro e w3 ⟨rfl, h1, h2⟩
  have HR3 := Lib.hid h1
  have HG3 := Lib.hid (HG2.out.from_ h2 h1)
  have HP3 := Lib.hid (HP2.out.trans h2)
  have HB3 := Lib.hid (h2.blk HB2.out HNE.out (by decide))
  have a33 := HB3.out.cell 3
  simp at a33
  clear h1 h2
  go_wp2_with fail
  go_end0
  rw [HV.out]
  exact ⟨rfl, HR3.out, HP3.out⟩

set_option maxRecDepth 100000 in
set_option maxHeartbeats 1000000 in
theorem p_write_5 (b : Nat) (σ : Nat → Addr) (g : Nat) (ws : WS) (p : Pr) (hl : ws.all.size + p.s.size + p.v.size + 8 ≤ 140737488351232) (w : World) (hG : Gl b σ w) (hR : Wr b σ w g ws) (ht : pType p.id = 5) :
    Calls Tryz.prog 150 #[.pointer (some ⟨g, 0, none⟩), .agg #[.int .i64 p.id, .int .i64 p.n, .string p.s, .string p.v]] w fun e w' => e = .returned (.tuple #[]) ∧ Wr b σ w' g (pWrite ws p) ∧ From g w w' := by
  have HG := Lib.hid hG
  have HR := Lib.hid hR
  have HT := Lib.hid ht
  have HV : Hid (pWrite ws p = (ws.var p.id).var p.n) := by show _ = _; unfold pWrite; rw [ht]; rfl
  have hz := WS.var_size ws p.id
  have hz2 := WS.text_size (ws.var p.id) p.s
  have hlt : g < w.heap.size := by obtain ⟨v, x, hb, _⟩ := hR; exact hb.lt
  have HP1 : Hid (Pure w (w.alloc (.cells #[.int .i64 p.id, .int .i64 p.n, .string p.s, .string p.v] 152))) := (Keep.refl _ w).alloc _
  have HB1 : Hid (Blk (w.alloc (.cells #[.int .i64 p.id, .int .i64 p.n, .string p.s, .string p.v] 152)) w.heap.size 152 #[.int .i64 p.id, .int .i64 p.n, .string p.s, .string p.v]) := Blk.new _ _ _
  have HNE : Hid (w.heap.size ≠ g) := by show _ ≠ _; omega
  clear hG hR ht
  go_enter Tryz.func150, Tryz.ntmps150
  go_wp2_with fail
  generalize w.alloc (.cells #[.int .i64 p.id, .int .i64 p.n, .string p.s, .string p.v] 152) = w1 at *
  have HG1 := Lib.hid (HG.out.pure HP1.out)
  have HR1 := Lib.hid (HR.out.pure HP1.out)
  refine (w_var b σ g ws p.id (by omega) w1 HG1.out HR1.out).mono ?_; rintro e w2 ⟨rfl, h1, h2⟩
  have HR2 := Lib.hid h1
  have HG2 := Lib.hid (HG1.out.from_ h2 h1)
  have HP2 := Lib.hid ((From.of_pure (g := g) HP1.out).trans h2)
  have HB2 := Lib.hid (h2.blk HB1.out HNE.out (by decide))
  have a0 := HB2.out.cell 0
  have a1 := HB2.out.cell 1
  have a2 := HB2.out.cell 2
  have a3 := HB2.out.cell 3
  simp at a0 a1 a2 a3
  clear h1 h2
  go_wp2_with fail
  refine (p_type _ _).mono ?_; rintro e w' ⟨rfl, rfl⟩
  rw [HT.out]
  go_wp2_with fail
  refine (w_var b σ g (ws.var p.id) p.n (by omega) w2 HG2.out HR2.out).mono ?_; rintro e w3 ⟨rfl, h1, h2⟩
  have HR3 := Lib.hid h1
  have HG3 := Lib.hid (HG2.out.from_ h2 h1)
  have HP3 := Lib.hid (HP2.out.trans h2)
  have HB3 := Lib.hid (h2.blk HB2.out HNE.out (by decide))
  have a33 := HB3.out.cell 3
  simp at a33
  clear h1 h2
  go_wp2_with fail
  go_end0
  rw [HV.out]
  exact ⟨rfl, HR3.out, HP3.out⟩

set_option maxRecDepth 100000 in
set_option maxHeartbeats 1000000 in
theorem p_write_7 (b : Nat) (σ : Nat → Addr) (g : Nat) (ws : WS) (p : Pr) (hl : ws.all.size + p.s.size + p.v.size + 8 ≤ 140737488351232) (w : World) (hG : Gl b σ w) (hR : Wr b σ w g ws) (ht : pType p.id = 7) :
    Calls Tryz.prog 150 #[.pointer (some ⟨g, 0, none⟩), .agg #[.int .i64 p.id, .int .i64 p.n, .string p.s, .string p.v]] w fun e w' => e = .returned (.tuple #[]) ∧ Wr b σ w' g (pWrite ws p) ∧ From g w w' := by
  have HG := Lib.hid hG
  have HR := Lib.hid hR
  have HT := Lib.hid ht
  have HV : Hid (pWrite ws p = (ws.var p.id).bin p.s) := by show _ = _; unfold pWrite; rw [ht]; rfl
  have hz := WS.var_size ws p.id
  have hz2 := WS.text_size (ws.var p.id) p.s
  have hlt : g < w.heap.size := by obtain ⟨v, x, hb, _⟩ := hR; exact hb.lt
  have HP1 : Hid (Pure w (w.alloc (.cells #[.int .i64 p.id, .int .i64 p.n, .string p.s, .string p.v] 152))) := (Keep.refl _ w).alloc _
  have HB1 : Hid (Blk (w.alloc (.cells #[.int .i64 p.id, .int .i64 p.n, .string p.s, .string p.v] 152)) w.heap.size 152 #[.int .i64 p.id, .int .i64 p.n, .string p.s, .string p.v]) := Blk.new _ _ _
  have HNE : Hid (w.heap.size ≠ g) := by show _ ≠ _; omega
  clear hG hR ht
  go_enter Tryz.func150, Tryz.ntmps150
  go_wp2_with fail
  generalize w.alloc (.cells #[.int .i64 p.id, .int .i64 p.n, .string p.s, .string p.v] 152) = w1 at *
  have HG1 := Lib.hid (HG.out.pure HP1.out)
  have HR1 := Lib.hid (HR.out.pure HP1.out)
  refine (w_var b σ g ws p.id (by omega) w1 HG1.out HR1.out).mono ?_; rintro e w2 ⟨rfl, h1, h2⟩
  have HR2 := Lib.hid h1
  have HG2 := Lib.hid (HG1.out.from_ h2 h1)
  have HP2 := Lib.hid ((From.of_pure (g := g) HP1.out).trans h2)
  have HB2 := Lib.hid (h2.blk HB1.out HNE.out (by decide))
  have a0 := HB2.out.cell 0
  have a1 := HB2.out.cell 1
  have a2 := HB2.out.cell 2
  have a3 := HB2.out.cell 3
  simp at a0 a1 a2 a3
  clear h1 h2
  go_wp2_with fail
  refine (p_type _ _).mono ?_; rintro e w' ⟨rfl, rfl⟩
  rw [HT.out]
  go_wp2_with fail
  refine (w_bin b σ g (ws.var p.id) p.s (by omega) w2 HG2.out HR2.out).mono ?_; rintro e w3 ⟨rfl, h1, h2⟩
  have HR3 := Lib.hid h1
  have HG3 := Lib.hid (HG2.out.from_ h2 h1)
  have HP3 := Lib.hid (HP2.out.trans h2)
  have HB3 := Lib.hid (h2.blk HB2.out HNE.out (by decide))
  have a33 := HB3.out.cell 3
  simp at a33
  clear h1 h2
  go_wp2_with fail
  go_end0
  rw [HV.out]
  exact ⟨rfl, HR3.out, HP3.out⟩

set_option maxRecDepth 100000 in
set_option maxHeartbeats 1000000 in
theorem p_write_9 (b : Nat) (σ : Nat → Addr) (g : Nat) (ws : WS) (p : Pr) (hl : ws.all.size + p.s.size + p.v.size + 8 ≤ 140737488351232) (w : World) (hG : Gl b σ w) (hR : Wr b σ w g ws) (ht : pType p.id = 9) :
    Calls Tryz.prog 150 #[.pointer (some ⟨g, 0, none⟩), .agg #[.int .i64 p.id, .int .i64 p.n, .string p.s, .string p.v]] w fun e w' => e = .returned (.tuple #[]) ∧ Wr b σ w' g (pWrite ws p) ∧ From g w w' := by
  have HG := Lib.hid hG
  have HR := Lib.hid hR
  have HT := Lib.hid ht
  have HV : Hid (pWrite ws p = ((ws.var p.id).text p.s).text p.v) := by show _ = _; unfold pWrite; rw [ht]; rfl
  have hz := WS.var_size ws p.id
  have hz2 := WS.text_size (ws.var p.id) p.s
  have hlt : g < w.heap.size := by obtain ⟨v, x, hb, _⟩ := hR; exact hb.lt
  have HP1 : Hid (Pure w (w.alloc (.cells #[.int .i64 p.id, .int .i64 p.n, .string p.s, .string p.v] 152))) := (Keep.refl _ w).alloc _
  have HB1 : Hid (Blk (w.alloc (.cells #[.int .i64 p.id, .int .i64 p.n, .string p.s, .string p.v] 152)) w.heap.size 152 #[.int .i64 p.id, .int .i64 p.n, .string p.s, .string p.v]) := Blk.new _ _ _
  have HNE : Hid (w.heap.size ≠ g) := by show _ ≠ _; omega
  clear hG hR ht
  go_enter Tryz.func150, Tryz.ntmps150
  go_wp2_with fail
  generalize w.alloc (.cells #[.int .i64 p.id, .int .i64 p.n, .string p.s, .string p.v] 152) = w1 at *
  have HG1 := Lib.hid (HG.out.pure HP1.out)
  have HR1 := Lib.hid (HR.out.pure HP1.out)
  refine (w_var b σ g ws p.id (by omega) w1 HG1.out HR1.out).mono ?_; rintro e w2 ⟨rfl, h1, h2⟩
  have HR2 := Lib.hid h1
  have HG2 := Lib.hid (HG1.out.from_ h2 h1)
  have HP2 := Lib.hid ((From.of_pure (g := g) HP1.out).trans h2)
  have HB2 := Lib.hid (h2.blk HB1.out HNE.out (by decide))
  have a0 := HB2.out.cell 0
  have a1 := HB2.out.cell 1
  have a2 := HB2.out.cell 2
  have a3 := HB2.out.cell 3
  simp at a0 a1 a2 a3
  clear h1 h2
  go_wp2_with fail
  refine (p_type _ _).mono ?_; rintro e w' ⟨rfl, rfl⟩
  rw [HT.out]
  go_wp2_with fail
  refine (w_text b σ g (ws.var p.id) p.s (by omega) w2 HG2.out HR2.out).mono ?_; rintro e w3 ⟨rfl, h1, h2⟩
  have HR3 := Lib.hid h1
  have HG3 := Lib.hid (HG2.out.from_ h2 h1)
  have HP3 := Lib.hid (HP2.out.trans h2)
  have HB3 := Lib.hid (h2.blk HB2.out HNE.out (by decide))
  have a33 := HB3.out.cell 3
  simp at a33
  clear h1 h2
  go_wp2_with fail
  refine (w_text b σ g ((ws.var p.id).text p.s) p.v (by omega) w3 HG3.out HR3.out).mono ?_; rintro e w4 ⟨rfl, h1, h2⟩
  have HR4 := Lib.hid h1
  have HG4 := Lib.hid (HG3.out.from_ h2 h1)
  have HP4 := Lib.hid (HP3.out.trans h2)
  have HB4 := Lib.hid (h2.blk HB3.out HNE.out (by decide))
  have a43 := HB4.out.cell 3
  simp at a43
  clear h1 h2
  go_wp2_with fail
  go_end0
  rw [HV.out]
  exact ⟨rfl, HR4.out, HP4.out⟩

set_option maxRecDepth 100000 in
set_option maxHeartbeats 1000000 in
theorem p_write_6 (b : Nat) (σ : Nat → Addr) (g : Nat) (ws : WS) (p : Pr) (hl : ws.all.size + p.s.size + p.v.size + 8 ≤ 140737488351232) (w : World) (hG : Gl b σ w) (hR : Wr b σ w g ws) (ht : pType p.id = 6) :
    Calls Tryz.prog 150 #[.pointer (some ⟨g, 0, none⟩), .agg #[.int .i64 p.id, .int .i64 p.n, .string p.s, .string p.v]] w fun e w' => e = .returned (.tuple #[]) ∧ Wr b σ w' g (pWrite ws p) ∧ From g w w' := by
  have HG := Lib.hid hG
  have HR := Lib.hid hR
  have HT := Lib.hid ht
  have HV : Hid (pWrite ws p = (ws.var p.id).text p.s) := by show _ = _; unfold pWrite; rw [ht]; rfl
  have hz := WS.var_size ws p.id
  have hz2 := WS.text_size (ws.var p.id) p.s
  have hlt : g < w.heap.size := by obtain ⟨v, x, hb, _⟩ := hR; exact hb.lt
  have HP1 : Hid (Pure w (w.alloc (.cells #[.int .i64 p.id, .int .i64 p.n, .string p.s, .string p.v] 152))) := (Keep.refl _ w).alloc _
  have HB1 : Hid (Blk (w.alloc (.cells #[.int .i64 p.id, .int .i64 p.n, .string p.s, .string p.v] 152)) w.heap.size 152 #[.int .i64 p.id, .int .i64 p.n, .string p.s, .string p.v]) := Blk.new _ _ _
  have HNE : Hid (w.heap.size ≠ g) := by show _ ≠ _; omega
  clear hG hR ht
  go_enter Tryz.func150, Tryz.ntmps150
  go_wp2_with fail
  generalize w.alloc (.cells #[.int .i64 p.id, .int .i64 p.n, .string p.s, .string p.v] 152) = w1 at *
  have HG1 := Lib.hid (HG.out.pure HP1.out)
  have HR1 := Lib.hid (HR.out.pure HP1.out)
  refine (w_var b σ g ws p.id (by omega) w1 HG1.out HR1.out).mono ?_; rintro e w2 ⟨rfl, h1, h2⟩
  have HR2 := Lib.hid h1
  have HG2 := Lib.hid (HG1.out.from_ h2 h1)
  have HP2 := Lib.hid ((From.of_pure (g := g) HP1.out).trans h2)
  have HB2 := Lib.hid (h2.blk HB1.out HNE.out (by decide))
  have a0 := HB2.out.cell 0
  have a1 := HB2.out.cell 1
  have a2 := HB2.out.cell 2
  have a3 := HB2.out.cell 3
  simp at a0 a1 a2 a3
  clear h1 h2
  go_wp2_with fail
  refine (p_type _ _).mono ?_; rintro e w' ⟨rfl, rfl⟩
  rw [HT.out]
  go_wp2_with fail
  refine (w_text b σ g (ws.var p.id) p.s (by omega) w2 HG2.out HR2.out).mono ?_; rintro e w3 ⟨rfl, h1, h2⟩
  have HR3 := Lib.hid h1
  have HG3 := Lib.hid (HG2.out.from_ h2 h1)
  have HP3 := Lib.hid (HP2.out.trans h2)
  have HB3 := Lib.hid (h2.blk HB2.out HNE.out (by decide))
  have a33 := HB3.out.cell 3
  simp at a33
  clear h1 h2
  go_wp2_with fail
  go_end0
  rw [HV.out]
  exact ⟨rfl, HR3.out, HP3.out⟩

set_option maxRecDepth 100000 in
set_option maxHeartbeats 1000000 in
theorem p_write_0 (b : Nat) (σ : Nat → Addr) (g : Nat) (ws : WS) (p : Pr) (hl : ws.all.size + p.s.size + p.v.size + 8 ≤ 140737488351232) (w : World) (hG : Gl b σ w) (hR : Wr b σ w g ws) (ht : pType p.id = 0) :
    Calls Tryz.prog 150 #[.pointer (some ⟨g, 0, none⟩), .agg #[.int .i64 p.id, .int .i64 p.n, .string p.s, .string p.v]] w fun e w' => e = .returned (.tuple #[]) ∧ Wr b σ w' g (pWrite ws p) ∧ From g w w' := by
  have HG := Lib.hid hG
  have HR := Lib.hid hR
  have HT := Lib.hid ht
  have HV : Hid (pWrite ws p = ws.var p.id) := by show _ = _; unfold pWrite; rw [ht]; rfl
  have hz := WS.var_size ws p.id
  have hz2 := WS.text_size (ws.var p.id) p.s
  have hlt : g < w.heap.size := by obtain ⟨v, x, hb, _⟩ := hR; exact hb.lt
  have HP1 : Hid (Pure w (w.alloc (.cells #[.int .i64 p.id, .int .i64 p.n, .string p.s, .string p.v] 152))) := (Keep.refl _ w).alloc _
  have HB1 : Hid (Blk (w.alloc (.cells #[.int .i64 p.id, .int .i64 p.n, .string p.s, .string p.v] 152)) w.heap.size 152 #[.int .i64 p.id, .int .i64 p.n, .string p.s, .string p.v]) := Blk.new _ _ _
  have HNE : Hid (w.heap.size ≠ g) := by show _ ≠ _; omega
  clear hG hR ht
  go_enter Tryz.func150, Tryz.ntmps150
  go_wp2_with fail
  generalize w.alloc (.cells #[.int .i64 p.id, .int .i64 p.n, .string p.s, .string p.v] 152) = w1 at *
  have HG1 := Lib.hid (HG.out.pure HP1.out)
  have HR1 := Lib.hid (HR.out.pure HP1.out)
  refine (w_var b σ g ws p.id (by omega) w1 HG1.out HR1.out).mono ?_; rintro e w2 ⟨rfl, h1, h2⟩
  have HR2 := Lib.hid h1
  have HG2 := Lib.hid (HG1.out.from_ h2 h1)
  have HP2 := Lib.hid ((From.of_pure (g := g) HP1.out).trans h2)
  have HB2 := Lib.hid (h2.blk HB1.out HNE.out (by decide))
  have a0 := HB2.out.cell 0
  have a1 := HB2.out.cell 1
  have a2 := HB2.out.cell 2
  have a3 := HB2.out.cell 3
  simp at a0 a1 a2 a3
  clear h1 h2
  go_wp2_with fail
  refine (p_type _ _).mono ?_; rintro e w' ⟨rfl, rfl⟩
  rw [HT.out]
  go_wp2_with fail
  go_end0
  rw [HV.out]
  exact ⟨rfl, HR2.out, HP2.out⟩

theorem p_write (b : Nat) (σ : Nat → Addr) (g : Nat) (ws : WS) (p : Pr) (hl : ws.all.size + p.s.size + p.v.size + 8 ≤ 140737488351232) (w : World) (hG : Gl b σ w) (hR : Wr b σ w g ws) :
    Calls Tryz.prog 150 #[.pointer (some ⟨g, 0, none⟩), .agg #[.int .i64 p.id, .int .i64 p.n, .string p.s, .string p.v]] w fun e w' => e = .returned (.tuple #[]) ∧ Wr b σ w' g (pWrite ws p) ∧ From g w w' := by
  rcases pType_cases p.id with h | h | h | h | h | h | h | h
  · exact p_write_1 b σ g ws p hl w hG hR h
  · exact p_write_2 b σ g ws p hl w hG hR h
  · exact p_write_4 b σ g ws p hl w hG hR h
  · exact p_write_5 b σ g ws p hl w hG hR h
  · exact p_write_7 b σ g ws p hl w hG hR h
  · exact p_write_9 b σ g ws p hl w hG hR h
  · exact p_write_6 b σ g ws p hl w hG hR h
  · exact p_write_0 b σ g ws p hl w hG hR h
end Go.Proofs.YthokkjdolcfhcaaGreatDoor

set_option linter.unusedVariables false
namespace Go.Proofs.YthokkjdolcfhcaaGreatDoor
open Go.RowKit

def ws0 : WS := ⟨noBytes, none⟩
/-- prop.Encode -/
def pEncode (place : Int) (l : List Pr) : Except Flt ByteArray :=
  match pCheck place [] l with
  | some f => .error f
  | none =>
    match (l.foldl pWrite ws0).bytes with
    | .error f => .error f
    | .ok all => ((ws0.var all.size).raw all).bytes
/-- how many bytes properties have, at most -/
def pBytes : List Pr → Nat
  | [] => 0
  | p :: l => p.s.size + p.v.size + 8 + pBytes l
theorem pBytes_take : ∀ (l : List Pr) (k : Nat), pBytes (l.take k) ≤ pBytes l
  | [], k => by simp
  | p :: l, 0 => by simp [pBytes]
  | p :: l, k + 1 => by have := pBytes_take l k; simp only [List.take_succ_cons, pBytes]; omega
theorem pBytes_at : ∀ (l : List Pr) (k : Nat) (hk : k < l.length), pBytes (l.take k) + l[k].s.size + l[k].v.size + 8 ≤ pBytes l
  | [], k, hk => by simp at hk
  | p :: l, 0, _ => by simp [pBytes]; try omega
  | p :: l, k + 1, hk => by
    have := pBytes_at l k (by simpa using hk)
    simp only [List.take_succ_cons, pBytes, List.getElem_cons_succ]
    omega
theorem pWrites_size (l : List Pr) : ∀ ws : WS, (l.foldl pWrite ws).all.size ≤ ws.all.size + pBytes l := by
  induction l with
  | nil => intro ws; simp [pBytes]
  | cons p l ih =>
    intro ws
    have h1 := ih (pWrite ws p)
    have h2 := pWrite_size ws p
    simp only [List.foldl_cons, pBytes]
    omega
theorem foldl_take {α β : Type} (f : β → α → β) (b : β) (l : List α) (k : Nat) (hk : k < l.length) : (l.take (k + 1)).foldl f b = f ((l.take k).foldl f b) l[k] := by
  rw [List.take_succ_eq_append_getElem hk, List.foldl_append]; rfl

/-- what a function that answers with bytes or an error comes to -/
def StrPost (σ : Nat → Addr) (x : Except Flt ByteArray) (w : World) (e : Ending) (w' : World) : Prop :=
  Pure w w' ∧ match x with
  | .error f => ∃ v, e = .returned (.tuple #[.string noBytes, v]) ∧ Er σ w' v (some f)
  | .ok s => e = .returned (.tuple #[.string s, .nilIface])
theorem Wr.new (b : Nat) (σ : Nat → Addr) (w : World) (hb : b ≤ w.heap.size) : Wr b σ (w.alloc (.cells #[.slice none 0 0, .nilIface] 101)) w.heap.size ws0 :=
  ⟨_, _, Blk.new _ _ _, ⟨rfl, .inl ⟨rfl, rfl⟩⟩, rfl, hb⟩
theorem Reads.from_ {w w' : World} {B size n g : Nat} {A : Option Addr} {xs : List Value} (h : Reads w B size A n xs) (k : From g w w') (hB : B ≤ w.heap.size) (hg : B ≤ g) : Reads w' B size A n xs :=
  ⟨h.1, fun hn => by
    obtain ⟨ad, e, hb, hc⟩ := h.2 hn
    refine ⟨ad, e, hb, fun j u hu => ?_⟩
    rw [k.low.cell (p := ad.add j) (by rw [block_of_add]; omega) (by rw [block_of_add]; omega)]
    exact hc j u hu⟩
theorem Keep.pure_ {w w' w'' : World} {g : Nat} (h : Pure w w') (k : From g w' w'') (hg : w.heap.size ≤ g) : Pure w w'' := h.seq k.low fun i hi => .inr (by omega)

set_option maxRecDepth 100000 in
set_option maxHeartbeats 2000000 in
theorem p_encode (b : Nat) (σ : Nat → Addr) (place : Int) (A : Option Addr) (c B : Nat) (l : List Pr) (w : World) (hG : Gl b σ w) (hr : Reads w B 4 A l.length (prRow l)) (hB : B ≤ w.heap.size) (hl : pBytes l ≤ 1000000000) (hl2 : l.length ≤ 1000000000) (hc : l.length ≤ c) :
    Calls Tryz.prog 78 #[.int .i64 place, .slice A l.length c] w (StrPost σ (pEncode place l) w) := by
  have HG := Lib.hid hG
  have HRR := Lib.hid hr
  have HL := Lib.hid hl
  clear hG hr hl
  go_enter Tryz.func78, Tryz.ntmps78
  go_wp2_with fail
  refine (p_check b σ place A c B l w HG.out HRR.out hB (by omega) hc).mono ?_; rintro e w1 ⟨v, rfl, hE, hP⟩
  have HG1 := Lib.hid (HG.out.pure hP)
  have HR1 := Lib.hid (HRR.out.pure hP hB)
  have HP1 := Lib.hid hP
  clear hP
  cases hck : pCheck place [] l with
  | some f =>
    have HV : Hid (pEncode place l = .error f) := by show _ = _; unfold pEncode; rw [hck]
    rw [hck] at hE
    have HE := Lib.hid hE
    obtain ⟨_, g', rfl, _⟩ := hE
    clear hck
    go_wp2_with fail
    go_ret2
    unfold StrPost
    rw [HV.out]
    exact ⟨HP1.out, _, rfl, HE.out⟩
  | none =>
    have HCK := Lib.hid hck
    rw [hck] at hE
    simp only [Er] at hE
    subst hE
    clear hck
    have hb1 : b ≤ w1.heap.size := HG1.out.size
    have hw1 : w.heap.size ≤ w1.heap.size := HP1.out.size
    have HW2 := Lib.hid (Wr.new b σ w1 hb1)
    have HP2 : Hid (Pure w (w1.alloc (.cells #[.slice none 0 0, .nilIface] 101))) := HP1.out.alloc _
    have HG2 := Lib.hid (HG1.out.alloc (.cells #[.slice none 0 0, .nilIface] 101))
    have HR2 := Lib.hid (HR1.out.alloc (by omega) (.cells #[.slice none 0 0, .nilIface] 101))
    have hB2 : B ≤ (w1.alloc (.cells #[.slice none 0 0, .nilIface] 101)).heap.size := by simp; omega
    have HBB := Lib.hid hB2
    clear hB2
    go_wp2_with fail
    generalize w1.alloc (.cells #[.slice none 0 0, .nilIface] 101) = w2 at *
    have hBg : B ≤ w1.heap.size := by omega
    have hwg : w.heap.size ≤ w1.heap.size := hw1
    have hbg : b ≤ w1.heap.size := hb1
    generalize w1.heap.size = g at *
    clear hb1 hw1
    go_loopw [23] (fun i wr => ∃ k : Nat, k ≤ l.length ∧ i = .int .i64 k ∧ Hid (Wr b σ wr g ((l.take k).foldl pWrite ws0)) ∧ Hid (From g w2 wr)) (fun i _ => l.length - (intOf i).toNat)
    case atStart => exact ⟨0, by omega, rfl, by simpa using HW2, From.refl _ _⟩
    case round =>
      obtain ⟨k, hk, rfl, HW, HF⟩ := hrel
      have HGr : Hid (Gl b σ wr) := HG2.out.from_ HF.out HW.out
      by_cases hlt : k < l.length
      · have hrr := HR2.out.from_ HF.out HBB.out hBg
        obtain ⟨ad, rfl, hadB, d0, d1, d2, d3⟩ := hrr.pr k hlt
        have hps : ((l.take k).foldl pWrite ws0).all.size + l[k].s.size + l[k].v.size + 8 ≤ 140737488351232 := by
          have h1 := pWrites_size (l.take k) ws0
          have h2 := pBytes_at l k hlt
          have h3 := HL.out
          have h4 : ws0.all.size = 0 := rfl
          omega
        have HN : Hid ((l.take (k + 1)).foldl pWrite ws0 = pWrite ((l.take k).foldl pWrite ws0) l[k]) := foldl_take _ _ _ _ hlt
        generalize (l.take k).foldl pWrite ws0 = ws at *
        generalize l[k] = p at *
        have HS := Lib.hid hps
        clear hrr hps
        have HPa : Hid (Pure wr (wr.alloc (.cells #[.int .i64 p.id, .int .i64 p.n, .string p.s, .string p.v] 152))) := (Keep.refl _ wr).alloc _
        go_wp2_with fail
        generalize wr.alloc (.cells #[.int .i64 p.id, .int .i64 p.n, .string p.s, .string p.v] 152) = w3 at *
        have HG3 := Lib.hid (HGr.out.pure HPa.out)
        refine (p_write b σ g ws p HS.out w3 HG3.out (HW.out.pure HPa.out)).mono ?_; rintro e w4 ⟨rfl, h1, h2⟩
        have HW4 := Lib.hid h1
        have HF4 := Lib.hid ((HF.out.trans (From.of_pure HPa.out)).trans h2)
        clear h1 h2
        go_wp2_with fail
        go_roundw
        case rel => exact ⟨k + 1, by omega, by go_num, by rw [HN.out]; exact HW4, HF4⟩
        case measure => simp [intOf]; omega
      · obtain rfl : k = l.length := by omega
        have HWE : Hid (Wr b σ wr g (l.foldl pWrite ws0)) := by have h := HW.out; rw [List.take_of_length_le (Nat.le_refl _)] at h; exact h
        have HVV : Hid (∀ ws, ws = l.foldl pWrite ws0 → pEncode place l = match ws.bytes with
          | .error f => .error f
          | .ok all => ((ws0.var all.size).raw all).bytes) := fun ws h => by show _ = _; subst h; unfold pEncode; rw [HCK.out]
        have HV0 := Lib.hid (HVV.out _ rfl)
        have HSZ : Hid ((l.foldl pWrite ws0).all.size ≤ 1000000000) := by
          have h1 := pWrites_size l ws0
          have h3 := HL.out
          have h4 : ws0.all.size = 0 := rfl
          show _ ≤ _
          omega
        clear hlt HVV
        generalize l.foldl pWrite ws0 = ws at *
        go_wp2_with fail
        refine (w_bytes b σ g ws wr HWE.out).mono ?_; rintro e w3 hpost
        unfold BytesPost at hpost
        obtain ⟨rfl, hpost⟩ := hpost
        cases hwe : ws.e with
        | some f =>
          have HV : Hid (pEncode place l = .error f) := by show _ = _; rw [HV0.out]; unfold WS.bytes; rw [hwe]
          rw [hwe] at hpost
          obtain ⟨v, rfl, hE⟩ := hpost
          have HE := Lib.hid hE
          obtain ⟨_, g', rfl, _⟩ := hE
          clear hwe
          go_wp2_with fail
          go_ret2
          unfold StrPost
          rw [HV.out]
          exact ⟨HP2.out.pure_ HF.out hwg, _, rfl, HE.out⟩
        | none =>
          have HV : Hid (pEncode place l = ((ws0.var ws.all.size).raw ws.all).bytes) := by show _ = _; rw [HV0.out]; unfold WS.bytes; rw [hwe]
          rw [hwe] at hpost
          simp only at hpost
          subst hpost
          have hall : ws.all.size ≤ 1000000000 := HSZ.out
          clear hwe
          generalize ws.all = all at *
          have hb3 : b ≤ wr.heap.size := HGr.out.size
          have hwr : w.heap.size ≤ wr.heap.size := (HP2.out.pure_ HF.out hwg).size
          have HWo := Lib.hid (Wr.new b σ wr hb3)
          have HPo : Hid (Pure w (wr.alloc (.cells #[.slice none 0 0, .nilIface] 101))) := (HP2.out.pure_ HF.out hwg).alloc _
          have HGo := Lib.hid (HGr.out.alloc (.cells #[.slice none 0 0, .nilIface] 101))
          go_wp2_with fail
          generalize wr.alloc (.cells #[.slice none 0 0, .nilIface] 101) = w4 at *
          generalize wr.heap.size = g2 at *
          refine (w_var b σ g2 ws0 _ (by have h : ws0.all.size = 0 := rfl; omega) w4 HGo.out HWo.out).mono ?_; rintro e w5 ⟨rfl, h1, h2⟩
          have HW5 := Lib.hid h1
          have HF5 := Lib.hid h2
          have HG5 := Lib.hid (HGo.out.from_ h2 h1)
          have hz5 := WS.var_size ws0 (all.size : Int)
          have h40 : ws0.all.size = 0 := rfl
          clear h1 h2
          go_wp2_with fail
          refine (w_raw b σ g2 _ all (by omega) w5 HG5.out HW5.out).mono ?_; rintro e w6 ⟨rfl, h1, h2⟩
          have HW6 := Lib.hid h1
          have HF6 := Lib.hid (HF5.out.trans h2)
          clear h1 h2 hz5 h40
          generalize (ws0.var all.size).raw all = ws6 at *
          go_wp2_with fail
          refine (w_bytes b σ g2 ws6 w6 HW6.out).mono ?_; rintro e w7 hpost
          unfold BytesPost at hpost
          obtain ⟨rfl, hpost⟩ := hpost
          have HPE : Hid (Pure w w6) := HPo.out.pure_ HF6.out hwr
          cases hwe : ws6.e with
          | some f =>
            have HVV : Hid (pEncode place l = .error f) := by show _ = _; rw [HV.out]; unfold WS.bytes; rw [hwe]
            rw [hwe] at hpost
            obtain ⟨v, rfl, hE⟩ := hpost
            have HE := Lib.hid hE
            obtain ⟨_, g', rfl, _⟩ := hE
            clear hwe
            go_wp2_with fail
            go_ret2
            unfold StrPost
            rw [HVV.out]
            exact ⟨HPE.out, _, rfl, HE.out⟩
          | none =>
            have HVV : Hid (pEncode place l = .ok ws6.all) := by show _ = _; rw [HV.out]; unfold WS.bytes; rw [hwe]
            rw [hwe] at hpost
            simp only at hpost
            subst hpost
            clear hwe
            go_wp2_with fail
            go_ret2
            unfold StrPost
            rw [HVV.out]
            exact ⟨HPE.out, rfl⟩
end Go.Proofs.YthokkjdolcfhcaaGreatDoor

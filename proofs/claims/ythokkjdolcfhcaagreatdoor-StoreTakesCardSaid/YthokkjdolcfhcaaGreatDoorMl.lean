/- The reference's properties: Read. -/
import Derived.Test.YthokkjdolcfhcaaGreatDoorMk
import Derived.RegionTactic
import Derived.BigRegion

set_option linter.unusedVariables false
namespace Go.Proofs.YthokkjdolcfhcaaGreatDoor
open Go.RowKit

theorem pGround_at (place : Int) (l : List Pr) (id a : Int) : pGround place l id a = (pGround place l id 0).map fun f => ⟨f.k, f.r, a⟩ := by
  unfold pGround
  (repeat' split) <;> rfl
theorem pGround_k {place : Int} {l : List Pr} {id a : Int} {f : Flt} (h : pGround place l id a = some f) : 1 ≤ f.k ∧ f.k ≤ 7 := by
  unfold pGround at h
  (repeat' split at h) <;> first | (cases h; simp; done) | cases h
theorem Rf.leftOf {w : World} {g : Nat} {st : RS} (h : Rf w g st) : leftOf g w = st.left := by
  unfold Go.Proofs.YthokkjdolcfhcaaGreatDoor.leftOf
  rw [h.1.cell 0, h.1.cell 1]
  simp [RS.left]

/-- what ref06.Read's loop stands on -/
structure QS (w0 : World) (g g2 rb base : Nat) (sx sp : RS) (v : Value) (l : List Pr) (w : World) : Prop where
  hx : Rf w g sx
  hp : Rf w g2 sp
  hb : Blk w rb 34 #[.int .i64 0, .int .i64 0, .int .i64 0]
  ho : w.ownsRow base 152 4 v l.length (prRow l)
  hk : Only g w0 w
  hn : g ≠ g2 ∧ w0.heap.size ≤ g2 ∧ w0.heap.size ≤ rb ∧ base ≤ w.heap.size ∧ rb < base ∧ g2 < base ∧ g < base
section
variable {w0 w w' : World} {g g2 rb base : Nat} {sx sp sp' : RS} {v : Value} {l : List Pr}
theorem QS.high (h : QS w0 g g2 rb base sx sp v l w) (N : Nat) (hN : base ≤ N) (hv : ∀ k, v.ownBlock = some k → k < N) (k : Keep (fun i => N ≤ i) w w') : QS w0 g g2 rb base sx sp v l w' := by
  obtain ⟨h1, h2, h3, h4, h5, h6⟩ := h
  have hs := k.size
  exact ⟨⟨k.blk h1.1 (by omega), h1.2⟩, ⟨k.blk h2.1 (by omega), h2.2⟩, k.blk h3 (by omega), k.own h4 (fun i hi => by have := hv i hi; omega), h5.seq k (fun i hi => .inr (by omega)), by omega⟩
theorem QS.pure (h : QS w0 g g2 rb base sx sp v l w) (k : Pure w w') : QS w0 g g2 rb base sx sp v l w' := by
  obtain ⟨h1, h2, h3, h4, h5, h6⟩ := h
  have hs := k.size
  exact ⟨h1.pure k, h2.pure k, k.blk h3 (fun hf => hf), k.own h4 (fun _ _ hf => hf), h5.trans (Keep.of_pure k), by omega⟩
theorem QS.rf (h : QS w0 g g2 rb base sx sp v l w) (k : Only g2 w w') (hp' : Rf w' g2 sp') : QS w0 g g2 rb base sx sp' v l w' := by
  obtain ⟨h1, h2, h3, h4, h5, h6⟩ := h
  have hs := k.size
  exact ⟨⟨k.blk h1.1 h6.1, h1.2⟩, hp', h3.rf k h2 (by decide), k.own h4 (fun i hi => h2.1.ne_own h4 (by decide) i hi), h5.seq k (fun i hi => .inr (by omega)), by omega⟩
theorem QS.fin (h : QS w0 g g2 rb base sx sp v l w) (k : Keep (fun i => i = rb) w w') : Rf w' g sx ∧ Only g w0 w' ∧ w'.ownsRow base 152 4 v l.length (prRow l) := by
  obtain ⟨h1, h2, h3, h4, h5, h6⟩ := h
  exact ⟨h1.keep k 34 (by decide) (fun i hi => by subst hi; exact ⟨_, h3⟩), h5.seq k (fun i hi => .inr (by omega)), k.own h4 (fun i hi => by intro e; subst e; exact h3.ne_own h4 (by decide) i hi rfl)⟩
end

theorem rf_fin {w0 w w' : World} {g rb : Nat} {sx : RS} {cs : Array Value} (hx : Rf w g sx) (hb : Blk w rb 34 cs) (hk : Only g w0 w) (hle : w0.heap.size ≤ rb) (k : Keep (fun i => i = rb) w w') : Rf w' g sx ∧ Only g w0 w' :=
  ⟨hx.keep k 34 (by decide) (fun i hi => by subst hi; exact ⟨_, hb⟩), hk.seq k fun i hi => .inr (by omega)⟩
theorem rf_fin' {w0 w w' : World} {g rb : Nat} {sx : RS} {cs : Array Value} {C : Prop} (hx : Rf w g sx) (hb : Blk w rb 34 cs) (hk : Only g w0 w) (hle : w0.heap.size ≤ rb) (k : Keep (fun i => i = rb) w w') (hC : Rf w' g sx → Only g w0 w' → C) : C :=
  hC (rf_fin hx hb hk hle k).1 (rf_fin hx hb hk hle k).2
theorem QS.fin' {w0 w w' : World} {g g2 rb base : Nat} {sx sp : RS} {v : Value} {l : List Pr} {C : Prop} (h : QS w0 g g2 rb base sx sp v l w) (k : Keep (fun i => i = rb) w w') (hC : Rf w' g sx → Only g w0 w' → w'.ownsRow w0.heap.size 152 4 v l.length (prRow l) → C) : C :=
  hC (h.fin k).1 (h.fin k).2.1 (own_low (h.fin k).2.2 (by have := h.hn; omega))
theorem QS.fin2 {w0 w w' : World} {g g2 rb base : Nat} {sx sp : RS} {v : Value} {l : List Pr} {C : Prop} (h : QS w0 g g2 rb base sx sp v l w) (N : Nat) (hN : base ≤ N) (hv : ∀ k, v.ownBlock = some k → k < N) (k : Keep (fun i => i = rb ∨ N ≤ i) w w') (hC : Rf w' g sx → Only g w0 w' → C) : C := by
  obtain ⟨h1, h2, h3, h4, h5, h6⟩ := h
  exact hC ⟨k.blk h1.1 (fun hs => by
    rcases hs with hs | hs
    · subst hs; exact Blk.ne_ h3 h1.1 (by decide) rfl
    · omega), h1.2⟩ (h5.seq k fun i hi => .inr (by omega))
theorem _root_.Go.World.ownsRow.own_lt {w : World} {base e size n : Nat} {v : Value} {xs : List Value} (h : w.ownsRow base e size v n xs) {k : Nat} (hk : v.ownBlock = some k) : k < w.heap.size := by
  rcases h.2 with ⟨rfl, _⟩ | ⟨g, cap, cur, rfl, hb, hh, r⟩
  · simp [Value.ownBlock] at hk
  · have : g = k := by simpa [Value.ownBlock] using hk
    subst this
    exact (Array.getElem?_eq_some_iff.1 hh).1
def QrPost (g : Nat) (x : Except Flt (List Pr) × RS) (w : World) (e : Ending) (w' : World) : Prop :=
  Rf w' g x.2 ∧ Only g w w' ∧
    match x.1 with
    | .ok l => ∃ v, e = .returned (.tuple #[v, fltVal 0 0 0]) ∧ w'.ownsRow w.heap.size 152 4 v l.length (prRow l) ∧ l.length ≤ 64
    | .error f => e = .returned (.tuple #[.slice none 0 0, fltVal f.k f.r f.a]) ∧ 1 ≤ f.k ∧ f.k ≤ 7

/-- the loop's relation -/
def LoopsQ (w0 : World) (g g2 rb base : Nat) (place : Int) (r : Except Flt (List Pr)) (sx : RS) (s : ByteArray) (v : Value) (wr : World) : Prop :=
  ∃ (st : RS) (l : List Pr) (n : Nat), QS w0 g g2 rb base sx st v l wr ∧ l.length ≤ 64 ∧ st.left ≤ n ∧ r = pLoop n st place l ∧ st.e = none ∧ st.s = s

set_option maxRecDepth 100000 in
set_option maxHeartbeats 2000000 in
theorem q_read (g : Nat) (st : RS) (place : Int) (w : World) (hR : Rf w g st) :
    Calls Tryz.prog 72 #[.pointer (some ⟨g, 0, none⟩), .int .i64 place] w (QrPost g (pRead st place) w) := by
  obtain ⟨i0, hi0, hz0, hz1, hz2⟩ := info_parts info_prop
  have HI0 : Hid (Tryz.prog.info? 152 = some i0) := hi0
  have HI1 := Lib.hid hz0
  have HI2 := Lib.hid hz1
  have HI3 := Lib.hid hz2
  have hsz : (st.var.2.raw st.var.1).1.size ≤ 140737488351232 := by
    have h1 := RS.raw_le st.var.2 st.var.1
    rw [RS.var_s] at h1
    have := hR.2.1.2
    omega
  have HR := Lib.hid hR
  have hglt := hR.lt
  clear hi0 hz0 hz1 hz2 hR
  go_enter Tryz.func72, Tryz.ntmps72
  have HPa : Hid (Pure w (w.alloc (.cells #[.int .i64 0, .int .i64 0, .int .i64 0] 34))) := (Keep.refl _ w).alloc _
  have HBa : Hid (Blk (w.alloc (.cells #[.int .i64 0, .int .i64 0, .int .i64 0] 34)) w.heap.size 34 #[.int .i64 0, .int .i64 0, .int .i64 0]) := Blk.new _ _ _
  go_wp2_with fail
  generalize w.alloc (.cells #[.int .i64 0, .int .i64 0, .int .i64 0] 34) = wa at *
  have HRa := Lib.hid (HR.out.pure HPa.out)
  refine (f_var g st wa HRa.out).mono ?_; rintro e w1 ⟨rfl, h1, h2⟩
  have HR1 := Lib.hid h1
  have HP1 := Lib.hid ((Keep.of_pure HPa.out).trans h2)
  have HB1 := Lib.hid (HBa.out.rf h2 HRa.out (by decide))
  clear h1 h2
  go_wp2_with fail
  refine (f_raw g _ _ w1 HR1.out).mono ?_; rintro e w2 ⟨rfl, h1, h2⟩
  have HR2 := Lib.hid h1
  have HP2 := Lib.hid (HP1.out.trans h2)
  have HB2 := Lib.hid (HB1.out.rf h2 HR1.out (by decide))
  clear h1 h2
  have HX : Hid (∀ x, x = st.var.2.raw st.var.1 → pRead st place = match x.2.e with
    | some f => (.error f, x.2)
    | none =>
      match pLoop x.1.size ⟨x.1, 0, none⟩ place [] with
      | .ok l => (.ok l, x.2)
      | .error f => (.error (deeperS f ((x.2.at_ : Int) - x.1.size)), x.2)) := fun x hx => by subst hx; rfl
  have HX0 := Lib.hid (HX.out _ rfl)
  have hat : (st.var.2.raw st.var.1).1.size ≤ (st.var.2.raw st.var.1).2.at_ ∨ (st.var.2.raw st.var.1).2.e ≠ none := raw_got _ _
  clear HX
  generalize st.var.2.raw st.var.1 = x at *
  obtain ⟨s, sx⟩ := x
  simp only at *
  have c1 := HR2.out.1.cell 1
  have c2 := HR2.out.1.cell 2
  have c3 := HR2.out.1.cell 3
  simp at c1 c2 c3
  have hlt2 := HR2.out.1.lt
  have hltb := HB2.out.lt
  have a0 := HB2.out.cell 0
  have a1 := HB2.out.cell 1
  have a2 := HB2.out.cell 2
  have fz := HB2.out.frozen
  simp at a0 a1 a2
  rcases fk_eq HR2.out.2.2 with ⟨f, hf, hk, hfk⟩ | ⟨hf, hfk⟩
  · have HOK := Lib.hid (HR2.out.2.2 f hf)
    have HV : Hid (pRead st place = (.error f, sx)) := by show _ = _; rw [HX0.out, hf]
    rw [hfk] at c2
    rw [hf] at c3
    simp only [fa] at c3
    have hk2 : ((f.k : Int) != 0) = true := by simpa using hk
    clear hf hfk hat
    go_wp2_with fail
    go_region
    all_goals
      go_wp2_with fail
      refine bodyPost_ret (v := .tuple #[.slice none 0 0, fltVal f.k 129 f.a]) (by simp [results, Tryz.results72, go_sem, fltVal, hltb, a0, a1, a2, fz]) rfl ?_
      unfold QrPost
      rw [HV.out]
      have hok := HOK.out
      unfold OkF at hok
      refine rf_fin' HR2.out HB2.out HP2.out (Nat.le_refl _) ?_ fun e1 e2 => ⟨e1, e2, by rw [hok.1], hok.2.1, hok.2.2.1⟩
      repeat (first | (with_reducible refine Keep.drew ?_) | (with_reducible refine Keep.drewN ?_ _) | (with_reducible refine Keep.alloc ?_ _) | (with_reducible refine Keep.setCell ?_ (by first | (simp; done) | (simp; omega)) _))
      exact Keep.refl _ _
  · have hat2 : (s.size : Int) ≤ sx.at_ := by
      rcases hat with h | h
      · omega
      · exact absurd hf h
    have hat3 : (sx.at_ : Int) ≤ 140737488351232 := by have h1 := HR2.out.2.1.1; have h2 := HR2.out.2.1.2; omega
    have HXL : Hid (pRead st place = match pLoop s.size ⟨s, 0, none⟩ place [] with
      | .ok l => (.ok l, sx)
      | .error f => (.error (deeperS f ((sx.at_ : Int) - s.size)), sx)) := by show _ = _; rw [HX0.out, hf]
    rw [hfk] at c2
    have hk2 : ((0 : Int) != 0) = false := by decide
    clear hf hfk hat
    have HBn : Hid (Blk (w2.alloc (.cells #[.string s, .int .i64 0, .int .i64 0, .int .i64 0] 88)) w2.heap.size 88 #[.string s, .int .i64 0, .int .i64 0, .int .i64 0]) := Blk.new _ _ _
    have HPn : Hid (Pure w2 (w2.alloc (.cells #[.string s, .int .i64 0, .int .i64 0, .int .i64 0] 88))) := (Keep.refl _ w2).alloc _
    go_wp2_with fail
    have HS : Hid (QS w g w2.heap.size w.heap.size (w2.alloc (.cells #[.string s, .int .i64 0, .int .i64 0, .int .i64 0] 88)).heap.size sx ⟨s, 0, none⟩ (.slice none 0 0) [] (w2.alloc (.cells #[.string s, .int .i64 0, .int .i64 0, .int .i64 0] 88))) := by
      have hw2 := HP2.out.size
      refine ⟨HR2.out.pure HPn.out, ⟨by simpa [fk, fa] using HBn.out, ⟨Nat.zero_le _, hsz⟩, fun f hf => by cases hf⟩, HPn.out.blk HB2.out (fun hf => hf), ⟨by simp [prRow], .inl ⟨rfl, rfl⟩⟩, HP2.out.trans (Keep.of_pure HPn.out), by omega, hw2, Nat.le_refl _, Nat.le_refl _, by simp; omega, by simp, by simp; omega⟩
    generalize w2.alloc (.cells #[.string s, .int .i64 0, .int .i64 0, .int .i64 0] 88) = w3 at *
    generalize w2.heap.size = g2 at *
    have HSTART : Hid (LoopsQ w g g2 w.heap.size w3.heap.size place (pLoop s.size ⟨s, 0, none⟩ place []) sx s (.slice none 0 0) w3) :=
      ⟨⟨s, 0, none⟩, [], s.size, HS.out, by simp, by simp [RS.left], rfl, rfl, rfl⟩
    generalize pLoop s.size ⟨s, 0, none⟩ place [] = r at *
    generalize hbs : ((sx.at_ : Int) - (s.size : Int)) = bs at *
    have hbs0 : 0 ≤ bs := by omega
    have hbs1 : bs ≤ 140737488351232 := by omega
    clear hbs HS hat2 hat3 c1 c2 c3 a0 a1 a2 fz hlt2 hltb
    go_loopw [9] (fun v wr => Hid (LoopsQ w g g2 w.heap.size w3.heap.size place r sx s v wr)) (fun _ wr => leftOf g2 wr)
    case atStart => exact HSTART
    case round =>
      obtain ⟨⟨ss, sa, se⟩, l, n, HQ, hl64, hleft, hr, hse, hss⟩ := hrel
      simp only at hse hss
      subst hse hss
      obtain ⟨A, c, rfl⟩ := own_shape HQ.ho
      have HQ0 := Lib.hid HQ
      have HM : Hid (leftOf g2 wr = (⟨ss, sa, none⟩ : RS).left) := HQ.hp.leftOf
      have x1 := HQ.hp.1.cell 1
      simp at x1
      have hsa : sa ≤ ss.size := HQ.hp.2.1.1
      have hgl : g2 < wr.heap.size := HQ.hp.1.lt
      by_cases hl0 : (⟨ss, sa, none⟩ : RS).left = 0
      · have HVR : Hid (pRead st place = (.ok l, sx)) := by show _ = _; rw [HXL.out, hr, pLoop_zero hl0]
        have hge : ¬ (sa : Int) < (ss.size : Int) := by unfold RS.left at hl0; simp only at hl0; omega
        have y0 := HQ.hb.cell 0
        have y1 := HQ.hb.cell 1
        have y2 := HQ.hb.cell 2
        have fy := HQ.hb.frozen
        have hrb := HQ.hb.lt
        simp at y0 y1 y2
        clear hr hl0 hleft HQ
        go_wp2_with fail
        refine bodyPost_ret (v := .tuple #[.slice A l.length c, fltVal 0 0 0]) (by simp [results, Tryz.results72, go_sem, fltVal, hrb, y0, y1, y2, fy]) rfl ?_
        unfold QrPost
        rw [HVR.out]
        refine QS.fin' HQ0.out ?_ fun e1 e2 e3 => ⟨e1, e2, _, rfl, e3, hl64⟩
        repeat (first | (with_reducible refine Keep.drew ?_) | (with_reducible refine Keep.drewN ?_ _) | (with_reducible refine Keep.alloc ?_ _) | (with_reducible refine Keep.setCell ?_ (by first | (simp; done) | (simp; omega)) _))
        exact Keep.refl _ _
      · have hlt : (sa : Int) < (ss.size : Int) := by unfold RS.left at hl0; simp only at hl0; omega
        obtain ⟨m, rfl⟩ : ∃ m, n = m + 1 := ⟨n - 1, by omega⟩
        have HRR : Hid (∀ y, y = pOne ⟨ss, sa, none⟩ place l → r = match y.1.2 with
          | none => pLoop m y.2 place (l ++ [y.1.1])
          | some f => .error f) := fun y hy => by subst hy; (rw [hr, pLoop, if_neg hl0]) <;> rfl
        have HRY := Lib.hid (HRR.out _ rfl)
        have HAD : Hid (∀ p st', pOne ⟨ss, sa, none⟩ place l = ((p, none), st') → st'.s = ss ∧ st'.e = none ∧ sa < st'.at_ ∧ l.length < 64) := fun p st' h => pOne_adv h
        have HLE := Lib.hid hleft
        have HON : Hid (∀ y, y = (⟨ss, sa, none⟩ : RS).var → pOne ⟨ss, sa, none⟩ place l = match y.2.e with
          | some f => ((zeroPr, some f), y.2)
          | none =>
            match pGround place l y.1 sa with
            | some f => ((zeroPr, some f), y.2)
            | none =>
              match (pValue y.2 y.1).2.e with
              | some f => ((zeroPr, some f), (pValue y.2 y.1).2)
              | none => (((pValue y.2 y.1).1, pBad (pValue y.2 y.1).1 sa), (pValue y.2 y.1).2)) := fun y hy => by subst hy; rfl
        have HO1 := Lib.hid (HON.out _ rfl)
        clear hr hl0 hleft HRR HON HQ
        go_wp2_with fail
        refine (f_var g2 _ wr HQ0.out.hp).mono ?_; rintro e w4 ⟨rfl, h1, h2⟩
        have HQ4 := Lib.hid (HQ0.out.rf h2 h1)
        clear h1 h2
        generalize (⟨ss, sa, none⟩ : RS).var = y at *
        obtain ⟨id, s1⟩ := y
        simp only at *
        have HPb : Hid (Pure w4 ((w4.alloc (.cells #[.int .i64 0, .int .i64 0, .int .i64 0] 34)).alloc (.cells #[.int .i64 0, .int .i64 0, .string ⟨#[]⟩, .string ⟨#[]⟩] 152))) := ((Keep.refl _ _).alloc _).alloc _
        have HBf : Hid (Blk ((w4.alloc (.cells #[.int .i64 0, .int .i64 0, .int .i64 0] 34)).alloc (.cells #[.int .i64 0, .int .i64 0, .string ⟨#[]⟩, .string ⟨#[]⟩] 152)) w4.heap.size 34 #[.int .i64 0, .int .i64 0, .int .i64 0]) := (Blk.new _ _ _).alloc _
        have HBp : Hid (Blk ((w4.alloc (.cells #[.int .i64 0, .int .i64 0, .int .i64 0] 34)).alloc (.cells #[.int .i64 0, .int .i64 0, .string ⟨#[]⟩, .string ⟨#[]⟩] 152)) (w4.heap.size + 1) 152 #[.int .i64 0, .int .i64 0, .string ⟨#[]⟩, .string ⟨#[]⟩]) := by
          have h := Blk.new (w4.alloc (.cells #[.int .i64 0, .int .i64 0, .int .i64 0] 34)) 152 #[.int .i64 0, .int .i64 0, .string ⟨#[]⟩, .string ⟨#[]⟩]
          have e : (w4.alloc (.cells #[.int .i64 0, .int .i64 0, .int .i64 0] 34)).heap.size = w4.heap.size + 1 := by simp
          rw [e] at h
          exact h
        have HQ5 := Lib.hid (HQ4.out.pure HPb.out)
        have HVN : Hid (w3.heap.size ≤ w4.heap.size ∧ ∀ k, (Value.slice A l.length c).ownBlock = some k → k < w4.heap.size) := ⟨HQ4.out.hn.2.2.2.1, fun k hk => HQ4.out.ho.own_lt hk⟩
        have z2 := HQ5.out.hp.1.cell 2
        have z3 := HQ5.out.hp.1.cell 3
        have hzl := HQ5.out.hp.1.lt
        simp at z2 z3
        rcases fk_eq HQ5.out.hp.2.2 with ⟨f, hf, hk, hfk⟩ | ⟨hf, hfk⟩
        · have hok := HQ5.out.hp.2.2 f hf
          unfold OkF at hok
          obtain ⟨hok1, hok2, hok3, hok4, hok5⟩ := hok
          have HVR : Hid (pRead st place = (.error ⟨f.k, 129, bs + f.a⟩, sx)) := by
            show _ = _
            have h1 := HO1.out
            rw [hf] at h1
            simp only at h1
            have h2 := HRY.out
            rw [h1] at h2
            simp only at h2
            rw [HXL.out, h2]
            simp only [deeperS]
            rw [furtherS_small hok4 hbs0 (by omega), hok1, Int.add_comm]
          have HK := Lib.hid (And.intro hok2 hok3)
          rw [hfk] at z2
          rw [hf] at z3
          simp only [fa] at z3
          have hk2 : ((f.k : Int) != 0) = true := by simpa using hk
          have hw1 : IntKind.i64.wrap (bs + f.a) = bs + f.a := IntWalk.i64_in _ (by omega)
          have y0 := HQ5.out.hb.cell 0
          have y1 := HQ5.out.hb.cell 1
          have y2 := HQ5.out.hb.cell 2
          have fy := HQ5.out.hb.frozen
          have hrb := HQ5.out.hb.lt
          simp at y0 y1 y2
          clear hf hfk hok1 hok2 hok3
          go_wp2_with fail
          generalize (w4.alloc (.cells #[.int .i64 0, .int .i64 0, .int .i64 0] 34)).alloc (.cells #[.int .i64 0, .int .i64 0, .string ⟨#[]⟩, .string ⟨#[]⟩] 152) = w5 at *
          go_region
          all_goals
            go_wp2_with fail
            refine bodyPost_ret (v := .tuple #[.slice none 0 0, fltVal f.k 129 (bs + f.a)]) (by simp [results, Tryz.results72, go_sem, fltVal, hrb, y0, y1, y2, fy]) rfl ?_
            unfold QrPost
            rw [HVR.out]
            refine QS.fin' HQ5.out ?_ fun e1 e2 e3 => ⟨e1, e2, rfl, HK.out.1, HK.out.2⟩
            repeat (first | (with_reducible refine Keep.drew ?_) | (with_reducible refine Keep.drewN ?_ _) | (with_reducible refine Keep.alloc ?_ _) | (with_reducible refine Keep.setCell ?_ (by first | (simp; done) | (simp; omega)) _))
            exact Keep.refl _ _
        · rw [hfk] at z2
          have HSE := Lib.hid hf
          have hk2 : ((0 : Int) != 0) = false := by decide
          have hk1 : ((0 : Int) == 0) = true := by decide
          clear hf hfk
          go_wp2_with fail
          generalize (w4.alloc (.cells #[.int .i64 0, .int .i64 0, .int .i64 0] 34)).alloc (.cells #[.int .i64 0, .int .i64 0, .string ⟨#[]⟩, .string ⟨#[]⟩] 152) = w5 at *
          generalize w4.heap.size = h at *
          refine (q_ground place A c w5.heap.size l id w5 (Reads.of_own HQ5.out.ho) (Nat.le_refl _) (by omega)).mono ?_; rintro e w6 ⟨rfl, hP⟩
          have HQ6 := Lib.hid (HQ5.out.pure hP)
          have HBf6 := Lib.hid (hP.blk HBf.out fun hf => hf)
          have HBp6 := Lib.hid (hP.blk HBp.out fun hf => hf)
          clear hP
          have f0 := HBf6.out.cell 0
          have f1 := HBf6.out.cell 1
          have f2 := HBf6.out.cell 2
          have ff := HBf6.out.frozen
          have hfl := HBf6.out.lt
          simp at f0 f1 f2
          have z2 := HQ6.out.hp.1.cell 2
          rw [HSE.out] at z2
          have z3 := HQ6.out.hp.1.cell 3
          have hzl := HQ6.out.hp.1.lt
          simp [fk] at z2 z3
          cases hg : pGround place l id 0 with
          | some f =>
            obtain ⟨hg1, hg2⟩ := pGround_k hg
            have HVR : Hid (pRead st place = (.error ⟨f.k, f.r, bs + sa⟩, sx)) := by
              show _ = _
              have h1 := HO1.out
              rw [HSE.out] at h1
              simp only at h1
              rw [pGround_at, hg] at h1
              simp only [Option.map] at h1
              have h2 := HRY.out
              rw [h1] at h2
              simp only at h2
              rw [HXL.out, h2]
              simp only [deeperS]
              rw [furtherS_small (by omega) hbs0 (by omega), Int.add_comm]
            have HK := Lib.hid (And.intro hg1 hg2)
            have hk3 : ((f.k : Int) != 0) = true := by simp; omega
            have hk4 : ((f.k : Int) == 0) = false := by simp; omega
            have hw1 : IntKind.i64.wrap (bs + (sa : Int)) = bs + (sa : Int) := IntWalk.i64_in _ (by omega)
            simp only [fk, fr, fltVal]
            have y0 := HQ6.out.hb.cell 0
            have y1 := HQ6.out.hb.cell 1
            have y2 := HQ6.out.hb.cell 2
            have fy := HQ6.out.hb.frozen
            have hrb := HQ6.out.hb.lt
            simp at y0 y1 y2
            have hne : w.heap.size ≠ h := by have h1 := HQ6.out.hn; have h2 := HVN.out.1; omega
            have hne2 : h ≠ w.heap.size := fun e => hne e.symm
            have hne3 : g2 ≠ h := by have h1 := HQ6.out.hn; have h2 := HVN.out.1; omega
            have hne4 : h ≠ g2 := fun e => hne3 e.symm
            clear hg hg1 hg2
            go_wp2_with fail
            go_region
            all_goals
              go_wp2_with fail
              refine bodyPost_ret (v := .tuple #[.slice none 0 0, fltVal f.k f.r (bs + sa)]) (by simp [results, Tryz.results72, go_sem, fltVal, hrb, y0, y1, y2, fy, hne, hne2]) rfl ?_
              unfold QrPost
              rw [HVR.out]
              refine QS.fin2 HQ6.out h HVN.out.1 HVN.out.2 ?_ fun e1 e2 => ⟨e1, e2, rfl, HK.out.1, HK.out.2⟩
              repeat (first | (with_reducible refine Keep.drew ?_) | (with_reducible refine Keep.drewN ?_ _) | (with_reducible refine Keep.alloc ?_ _) | (with_reducible refine Keep.setCell ?_ (by first | (simp; done) | (simp; omega)) _))
              exact Keep.refl _ _
          | none =>
            have HTY := Lib.hid (pGround_type hg)
            have HO2 : Hid (∀ y, y = pValue s1 id → pOne ⟨ss, sa, none⟩ place l = match y.2.e with
              | some f => ((zeroPr, some f), y.2)
              | none => ((y.1, pBad y.1 sa), y.2)) := fun y hy => by
                show _ = _
                subst hy
                have h1 := HO1.out
                rw [HSE.out] at h1
                simp only at h1
                rw [pGround_at, hg] at h1
                simp only [Option.map] at h1
                exact h1
            have HO3 := Lib.hid (HO2.out _ rfl)
            simp only [fk, fr, fltVal]
            have hne : w.heap.size ≠ h := by have h1 := HQ6.out.hn; have h2 := HVN.out.1; omega
            have hne2 : h ≠ w.heap.size := fun e => hne e.symm
            have hne3 : g2 ≠ h := by have h1 := HQ6.out.hn; have h2 := HVN.out.1; omega
            have hne4 : h ≠ g2 := fun e => hne3 e.symm
            clear hg HO2 HO1
            go_wp2_with fail
            have HK7 : Hid (Keep (fun i => h ≤ i) w6 (((w6.setCell ⟨h, 0, none⟩ (.int .i64 0)).setCell ⟨h, 1, none⟩ (.int .i64 0)).setCell ⟨h, 2, none⟩ (.int .i64 0))) := by
              show Keep _ _ _
              repeat (first | (with_reducible refine Keep.drew ?_) | (with_reducible refine Keep.drewN ?_ _) | (with_reducible refine Keep.alloc ?_ _) | (with_reducible refine Keep.setCell ?_ (by first | (simp; done) | (simp; omega)) _))
              exact Keep.refl _ _
            have HQ7 := Lib.hid (HQ6.out.high h HVN.out.1 HVN.out.2 HK7.out)
            have HBf7 : Hid (Blk (((w6.setCell ⟨h, 0, none⟩ (.int .i64 0)).setCell ⟨h, 1, none⟩ (.int .i64 0)).setCell ⟨h, 2, none⟩ (.int .i64 0)) h 34 #[.int .i64 0, .int .i64 0, .int .i64 0]) := by
              have hb := ((HBf6.out.set_ 0 (.int .i64 0)).set_ 1 (.int .i64 0)).set_ 2 (.int .i64 0)
              show Blk _ _ _ _
              simpa using hb
            have HBp7 : Hid (Blk (((w6.setCell ⟨h, 0, none⟩ (.int .i64 0)).setCell ⟨h, 1, none⟩ (.int .i64 0)).setCell ⟨h, 2, none⟩ (.int .i64 0)) (h + 1) 152 #[.int .i64 0, .int .i64 0, .string ⟨#[]⟩, .string ⟨#[]⟩]) :=
              ((HBp6.out.far (p := ⟨h, 0, none⟩) (by simp) _).far (p := ⟨h, 1, none⟩) (by simp) _).far (p := ⟨h, 2, none⟩) (by simp) _
            clear f0 f1 f2 ff hfl z2 z3 hzl
            generalize ((w6.setCell ⟨h, 0, none⟩ (.int .i64 0)).setCell ⟨h, 1, none⟩ (.int .i64 0)).setCell ⟨h, 2, none⟩ (.int .i64 0) = w7 at *
            refine (q_value g2 s1 _ w7 HQ7.out.hp HTY.out).mono ?_; rintro e w8 ⟨rfl, h1, h2⟩
            have HQ8 := Lib.hid (HQ7.out.rf h2 h1)
            have HBf8 := Lib.hid (HBf7.out.rf h2 HQ7.out.hp (by decide))
            have HBp8 := Lib.hid (HBp7.out.rf h2 HQ7.out.hp (by decide))
            clear h1 h2
            generalize pValue s1 id = y at *
            obtain ⟨⟨pid, pn, ps, pv⟩, s2⟩ := y
            simp only at *
            have b0 := HBp8.out.cell 0
            have b1 := HBp8.out.cell 1
            have b2 := HBp8.out.cell 2
            have b3 := HBp8.out.cell 3
            have fb := HBp8.out.frozen
            simp at b0 b1 b2 b3
            have f0 := HBf8.out.cell 0
            have f1 := HBf8.out.cell 1
            have f2 := HBf8.out.cell 2
            have ff := HBf8.out.frozen
            have hfl := HBf8.out.lt
            simp at f0 f1 f2
            have z2 := HQ8.out.hp.1.cell 2
            have z3 := HQ8.out.hp.1.cell 3
            have hzl := HQ8.out.hp.1.lt
            simp at z2 z3
            have y0 := HQ8.out.hb.cell 0
            have y1 := HQ8.out.hb.cell 1
            have y2 := HQ8.out.hb.cell 2
            have fy := HQ8.out.hb.frozen
            have hrb := HQ8.out.hb.lt
            simp at y0 y1 y2
            have hne5 : g2 ≠ h + 1 := by have h1 := HQ8.out.hn; have h2 := HVN.out.1; omega
            have hne6 : h + 1 ≠ g2 := fun e => hne5 e.symm
            have hne7 : w.heap.size ≠ h + 1 := by have h1 := HQ8.out.hn; have h2 := HVN.out.1; omega
            have hne8 : h + 1 ≠ w.heap.size := fun e => hne7 e.symm
            rcases fk_eq HQ8.out.hp.2.2 with ⟨f, hf, hk, hfk⟩ | ⟨hf, hfk⟩
            · have hok := HQ8.out.hp.2.2 f hf
              unfold OkF at hok
              obtain ⟨hok1, hok2, hok3, hok4, hok5⟩ := hok
              have HVR : Hid (pRead st place = (.error ⟨f.k, 129, bs + f.a⟩, sx)) := by
                show _ = _
                have h1 := HO3.out
                rw [hf] at h1
                simp only at h1
                have h2 := HRY.out
                rw [h1] at h2
                simp only at h2
                rw [HXL.out, h2]
                simp only [deeperS]
                rw [furtherS_small hok4 hbs0 (by omega), hok1, Int.add_comm]
              have HK := Lib.hid (And.intro hok2 hok3)
              rw [hfk] at z2
              rw [hf] at z3
              simp only [fa] at z3
              have hk3 : ((f.k : Int) != 0) = true := by simpa using hk
              have hw1 : IntKind.i64.wrap (bs + f.a) = bs + f.a := IntWalk.i64_in _ (by omega)
              clear hf hfk hok1 hok2 hok3
              go_wp2_with fail
              go_region
              all_goals
                go_wp2_with fail
                refine bodyPost_ret (v := .tuple #[.slice none 0 0, fltVal f.k 129 (bs + f.a)]) (by simp [results, Tryz.results72, go_sem, fltVal, hrb, y0, y1, y2, fy, hne7, hne8]) rfl ?_
                unfold QrPost
                rw [HVR.out]
                refine QS.fin2 HQ8.out h HVN.out.1 HVN.out.2 ?_ fun e1 e2 => ⟨e1, e2, rfl, HK.out.1, HK.out.2⟩
                repeat (first | (with_reducible refine Keep.drew ?_) | (with_reducible refine Keep.drewN ?_ _) | (with_reducible refine Keep.alloc ?_ _) | (with_reducible refine Keep.setCell ?_ (by first | (simp; done) | (simp; omega)) _))
                exact Keep.refl _ _
            · rw [hfk] at z2
              have HS2 := Lib.hid hf
              clear hf hfk
              go_wp2_with fail
              have HK9 : Hid (Keep (fun i => h ≤ i) w8 ((((w8.setCell ⟨h + 1, 0, none⟩ (.int .i64 pid)).setCell ⟨h + 1, 1, none⟩ (.int .i64 pn)).setCell ⟨h + 1, 2, none⟩ (.string ps)).setCell ⟨h + 1, 3, none⟩ (.string pv))) := by
                show Keep _ _ _
                repeat (first | (with_reducible refine Keep.drew ?_) | (with_reducible refine Keep.drewN ?_ _) | (with_reducible refine Keep.alloc ?_ _) | (with_reducible refine Keep.setCell ?_ (by first | (simp; done) | (simp; omega)) _))
                exact Keep.refl _ _
              have HQ9 := Lib.hid (HQ8.out.high h HVN.out.1 HVN.out.2 HK9.out)
              have HBp9 : Hid (Blk ((((w8.setCell ⟨h + 1, 0, none⟩ (.int .i64 pid)).setCell ⟨h + 1, 1, none⟩ (.int .i64 pn)).setCell ⟨h + 1, 2, none⟩ (.string ps)).setCell ⟨h + 1, 3, none⟩ (.string pv)) (h + 1) 152 #[.int .i64 pid, .int .i64 pn, .string ps, .string pv]) := by
                have hb := (((HBp8.out.set_ 0 (.int .i64 pid)).set_ 1 (.int .i64 pn)).set_ 2 (.string ps)).set_ 3 (.string pv)
                show Blk _ _ _ _
                simpa using hb
              have HBf9 : Hid (Blk ((((w8.setCell ⟨h + 1, 0, none⟩ (.int .i64 pid)).setCell ⟨h + 1, 1, none⟩ (.int .i64 pn)).setCell ⟨h + 1, 2, none⟩ (.string ps)).setCell ⟨h + 1, 3, none⟩ (.string pv)) h 34 #[.int .i64 0, .int .i64 0, .int .i64 0]) :=
                (((HBf8.out.far (p := ⟨h + 1, 0, none⟩) (by simp) _).far (p := ⟨h + 1, 1, none⟩) (by simp) _).far (p := ⟨h + 1, 2, none⟩) (by simp) _).far (p := ⟨h + 1, 3, none⟩) (by simp) _
              clear b0 b1 b2 b3 fb f0 f1 f2 ff hfl z2 z3 hzl y0 y1 y2 fy hrb
              generalize (((w8.setCell ⟨h + 1, 0, none⟩ (.int .i64 pid)).setCell ⟨h + 1, 1, none⟩ (.int .i64 pn)).setCell ⟨h + 1, 2, none⟩ (.string ps)).setCell ⟨h + 1, 3, none⟩ (.string pv) = w9 at *
              refine (q_numbered ⟨pid, pn, ps, pv⟩ w9).mono ?_; rintro e w10 ⟨rfl, hP⟩
              have HQ10 := Lib.hid (HQ9.out.pure hP)
              have HBp10 := Lib.hid (hP.blk HBp9.out fun hf => hf)
              have HBf10 := Lib.hid (hP.blk HBf9.out fun hf => hf)
              clear hP
              simp only
              have f0 := HBf10.out.cell 0
              have f1 := HBf10.out.cell 1
              have f2 := HBf10.out.cell 2
              have ff := HBf10.out.frozen
              have hfl := HBf10.out.lt
              simp at f0 f1 f2
              have b0 := HBp10.out.cell 0
              have b1 := HBp10.out.cell 1
              have b2 := HBp10.out.cell 2
              have b3 := HBp10.out.cell 3
              simp at b0 b1 b2 b3
              cases hnum : pNumbered pid pn with
              | false =>
                have HVR : Hid (pRead st place = (.error ⟨3, 130, bs + sa⟩, sx)) := by
                  show _ = _
                  have h1 := HO3.out
                  rw [HS2.out] at h1
                  unfold pBad at h1
                  rw [if_neg (by simp [hnum])] at h1
                  have h2 := HRY.out
                  rw [h1] at h2
                  simp only at h2
                  rw [HXL.out, h2]
                  simp only [deeperS]
                  rw [furtherS_small (by omega) hbs0 (by omega), Int.add_comm]
                have hw1 : IntKind.i64.wrap (bs + (sa : Int)) = bs + (sa : Int) := IntWalk.i64_in _ (by omega)
                have y0 := HQ10.out.hb.cell 0
                have y1 := HQ10.out.hb.cell 1
                have y2 := HQ10.out.hb.cell 2
                have fy := HQ10.out.hb.frozen
                have hrb := HQ10.out.hb.lt
                simp at y0 y1 y2
                clear hnum
                go_wp2_with fail
                go_region
                all_goals
                  go_wp2_with fail
                  refine bodyPost_ret (v := .tuple #[.slice none 0 0, fltVal 3 130 (bs + sa)]) (by simp [results, Tryz.results72, go_sem, fltVal, hrb, y0, y1, y2, fy, hne, hne2]) rfl ?_
                  unfold QrPost
                  rw [HVR.out]
                  refine QS.fin2 HQ10.out h HVN.out.1 HVN.out.2 ?_ fun e1 e2 => ⟨e1, e2, rfl, by simp, by simp⟩
                  repeat (first | (with_reducible refine Keep.drew ?_) | (with_reducible refine Keep.drewN ?_ _) | (with_reducible refine Keep.alloc ?_ _) | (with_reducible refine Keep.setCell ?_ (by first | (simp; done) | (simp; omega)) _))
                  exact Keep.refl _ _
              | true =>
                have HPN : Hid (pOne ⟨ss, sa, none⟩ place l = ((⟨pid, pn, ps, pv⟩, none), s2)) := by
                  show _ = _
                  have h1 := HO3.out
                  rw [HS2.out] at h1
                  simp only [pBad, hnum] at h1
                  exact h1
                obtain ⟨had1, had2, had3, had4⟩ := HAD.out _ _ HPN.out
                have HRZ : Hid (r = pLoop m s2 place (l ++ [⟨pid, pn, ps, pv⟩])) := by
                  show _ = _
                  have h2 := HRY.out
                  rw [HPN.out] at h2
                  exact h2
                have HA1 : Hid (s2.s = ss ∧ s2.e = none) := ⟨had1, had2⟩
                have HPp : Hid (Pure w10 (w10.alloc (.cells #[.int .i64 pid, .int .i64 pn, .string ps, .string pv] 152))) := (Keep.refl _ w10).alloc _
                have HO11 : Hid (World.ownsRow (w10.alloc (.cells #[.int .i64 pid, .int .i64 pn, .string ps, .string pv] 152)) w3.heap.size 152 4 (.slice A l.length c) l.length (prRow l)) := HPp.out.own HQ10.out.ho fun _ _ hf => hf
                have hb11 : w3.heap.size ≤ (w10.alloc (.cells #[.int .i64 pid, .int .i64 pn, .string ps, .string pv] 152)).heap.size := Nat.le_trans HQ10.out.hn.2.2.2.1 HPp.out.size
                have HB11 := Lib.hid hb11
                clear hb11 hnum had1 had2
                go_wp2_with (at_builtin; refine wpList_append_own _ rfl (.tmp 108) (.tmp 110) 23 rfl w3.heap.size 152 i0 (.agg #[.int .i64 0, .int .i64 0, .string ⟨#[]⟩, .string ⟨#[]⟩]) 4 48 Tryz.underlying23 HI0.out HI1.out HI2.out HI3.out rfl (by decide) (.slice A l.length c) l.length (prRow l) rfl HO11.out ⟨w10.heap.size, 0, none⟩ 1 1 (prCells ⟨pid, pn, ps, pv⟩) rfl rfl ?news ?one ?mx ?bb ?bs ?k)
                case mx => unfold maxLen; omega
                case bb => omega
                case bs => have h := HB11.out; simpa using h
                case news =>
                  intro j u hu
                  have h := (Blk.new w10 152 #[.int .i64 pid, .int .i64 pn, .string ps, .string pv]).cell j
                  rw [Addr.add_lit]
                  simp only [Nat.zero_add]
                  rw [h]
                  simpa [prCells] using hu
                case one => intro u hu; simp [prCells] at hu; rcases hu with rfl | rfl | rfl | rfl <;> rfl
                case k =>
                  intro v' w12 hown12 hgrow _
                  go_wp2_with fail
                  have K12 : Keep (fun k => w3.heap.size ≤ k) w10 w12 := (Keep.of_pure HPp.out).grown hgrow fun k hk => .inl (own_ge HO11.out k hk)
                  have hs12 := K12.size
                  obtain ⟨q1, q2, q3, q4, q5, q6⟩ := HQ10.out
                  have hle := HLE.out
                  have hss := HA1.out.1
                  have hleft : s2.left < (⟨ss, sa, none⟩ : RS).left := by
                    unfold RS.left
                    rw [hss]
                    simp only
                    omega
                  have hp12 : Rf w12 g2 s2 := ⟨K12.blk q2.1 (by omega), q2.2⟩
                  have hsl : (prRow (l ++ [⟨pid, pn, ps, pv⟩])) = prRow l ++ prCells ⟨pid, pn, ps, pv⟩ := by simp [prRow]
                  refine ⟨⟨s2, l ++ [⟨pid, pn, ps, pv⟩], m, ⟨⟨K12.blk q1.1 (by omega), q1.2⟩, hp12, K12.blk q3 (by omega), ?_, q5.seq K12 (fun i hi => .inr (by omega)), by omega⟩, by simp; omega, by omega, HRZ.out, HA1.out.2, hss⟩, ?_⟩
                  · rw [hsl]
                    simpa using hown12
                  · rw [HM.out, hp12.leftOf]
                    exact hleft
end Go.Proofs.YthokkjdolcfhcaaGreatDoor

/- The statement's own closed part: lists of one message compared; Rewrite at one message. Package store: Rewrite at one message. The statement's 'same': an error and the reference's fault. -/
import Derived.Test.YthokkjdolcfhcaaGreatDoorMq
import Derived.Test.YthokkjdolcfhcaaGreatDoorMm

set_option linter.unusedVariables false
namespace Go.Proofs.YthokkjdolcfhcaaGreatDoor
open Go.RowKit

set_option maxRecDepth 100000 in
set_option maxHeartbeats 2000000 in
theorem q_msgs_same (m : SMsg) (h h' c c' : Nat) (A A' : Option Addr) (n n' : Nat) (hm : m.props = []) (w : World)
    (hc : ∀ j u, (msgCells m (.slice A 0 n))[j]? = some u → w.cell? ⟨h, j, none⟩ = some u) (hc' : ∀ j u, (msgCells m (.slice A' 0 n'))[j]? = some u → w.cell? ⟨h', j, none⟩ = some u) :
    Calls Tryz.prog 59 #[.slice (some ⟨h, 0, none⟩) 1 c, .slice (some ⟨h', 0, none⟩) 1 c'] w fun e w' => e = .returned (.bool true) ∧ Pure w w' := by
  have HS : Hid (∀ wx, Calls Tryz.prog 58 #[.agg (msgCells m (.slice A 0 n)), .agg (msgCells m (.slice A' 0 n'))] wx fun e w' => e = .returned (.bool true) ∧ Pure wx w') := by
    intro wx
    have h := q_msg_same m A A' n n' 0 0 wx ⟨by rw [hm]; simp [prRow], fun h => by rw [hm] at h; simp at h⟩ ⟨by rw [hm]; simp [prRow], fun h => by rw [hm] at h; simp at h⟩ (Nat.zero_le _) (Nat.zero_le _) (by rw [hm]; simp)
    rw [hm] at h
    exact h
  obtain ⟨mt, mp, mq, mr, ml, mf, mu, ms, mg⟩ := m
  simp only [msgCells] at *
  have d0 := hc 0 _ rfl
  have d1 := hc 1 _ rfl
  have d2 := hc 2 _ rfl
  have d3 := hc 3 _ rfl
  have d4 := hc 4 _ rfl
  have d5 := hc 5 _ rfl
  have d6 := hc 6 _ rfl
  have d7 := hc 7 _ rfl
  have d8 := hc 8 _ rfl
  have e0 := hc' 0 _ rfl
  have e1 := hc' 1 _ rfl
  have e2 := hc' 2 _ rfl
  have e3 := hc' 3 _ rfl
  have e4 := hc' 4 _ rfl
  have e5 := hc' 5 _ rfl
  have e6 := hc' 6 _ rfl
  have e7 := hc' 7 _ rfl
  have e8 := hc' 8 _ rfl
  clear hc hc' hm
  go_enter Tryz.func59, Tryz.ntmps59
  go_wp2_with fail
  go_loopw [5] (fun i wr => (i = .int .i64 0 ∧ Hid (wr = w)) ∨ (i = .int .i64 1 ∧ Hid (Pure w wr))) (fun i _ => 1 - (intOf i).toNat)
  case atStart => exact .inl ⟨rfl, rfl⟩
  case round =>
    rcases hrel with ⟨rfl, hw⟩ | ⟨rfl, HP⟩
    · obtain rfl := hw.out
      have hi : (0 : Int) < 1 := by decide
      go_wp2_with fail
      go_region_with (go_at_call 58; refine (HS.out _).mono ?_; rintro e w2 ⟨rfl, hP⟩; have HP := Lib.hid hP; clear hP)
      all_goals
        have HP2 : Hid (Pure wr w2) := ((Keep.refl _ _).drew).trans HP.out
        go_wp2_with fail
        go_roundw
        case rel => exact .inr ⟨rfl, HP2⟩
        case measure => simp [intOf]
    · go_wp2_with fail
      go_ret
      exact ⟨rfl, HP.out⟩
end Go.Proofs.YthokkjdolcfhcaaGreatDoor

set_option linter.unusedVariables false
namespace Go.Proofs.YthokkjdolcfhcaaGreatDoor
open Go.RowKit

theorem info_str : (Tryz.prog.info? 9).map (fun i => (i.zero, i.size, i.bytes)) = some (some (.string ⟨#[]⟩), 1, 16) := by kernel_rfl
def RwPost (h : Nat) (n : Nat) (w : World) (e : Ending) (w' : World) : Prop :=
  e = .returned (.tuple #[]) ∧ Keep (fun k => h ≤ k) w w' ∧ ∃ v' xs', Blk w' h 43 #[v'] ∧ w'.ownsRow h 9 1 v' (n + 1) xs'

set_option maxRecDepth 100000 in
set_option maxHeartbeats 2000000 in
theorem rw_put_C (b : Nat) (σ : Nat → Addr) (h n : Nat) (v : Value) (xs : List Value) (w : World) (hG : Gl b σ w) (hn : n ≤ 1000) (hb : Blk w h 43 #[v]) (ho : w.ownsRow h 9 1 v n xs) :
    Calls Tryz.prog 134 #[.agg #[.int .i64 3, .string ⟨#[47]⟩, .int .i64 2, .string ⟨#[]⟩, .string ⟨#[]⟩, .int .i64 0, .bool false, .slice none 0 0, .string ⟨#[]⟩, .int .i64 0, .int .i64 0, .string ⟨#[]⟩], .pointer (some ⟨h, 0, none⟩)] w (RwPost h n w) := by
  obtain ⟨i0, hi0, hz0, hz1, hz2⟩ := info_parts info_str
  have HI0 : Hid (Tryz.prog.info? 9 = some i0) := hi0
  have HI1 := Lib.hid hz0
  have HI2 := Lib.hid hz1
  have HI3 := Lib.hid hz2
  have hP : Pure w (w.alloc (.cells #[.int .i64 3, .string ⟨#[47]⟩, .int .i64 2, .string ⟨#[]⟩, .string ⟨#[]⟩, .int .i64 0, .bool false, .slice none 0 0, .string ⟨#[]⟩, .int .i64 0, .int .i64 0, .string ⟨#[]⟩] 27)) := (Keep.refl _ w).alloc _
  have HP1 := Lib.hid hP
  have HG1 := Lib.hid (hG.pure hP)
  have HB1 := Lib.hid (hP.blk hb fun hf => hf)
  have HO1 := Lib.hid (hP.own ho fun _ _ hf => hf)
  have HX1 : Hid (Blk (w.alloc (.cells #[.int .i64 3, .string ⟨#[47]⟩, .int .i64 2, .string ⟨#[]⟩, .string ⟨#[]⟩, .int .i64 0, .bool false, .slice none 0 0, .string ⟨#[]⟩, .int .i64 0, .int .i64 0, .string ⟨#[]⟩] 27)) w.heap.size 27 #[.int .i64 3, .string ⟨#[47]⟩, .int .i64 2, .string ⟨#[]⟩, .string ⟨#[]⟩, .int .i64 0, .bool false, .slice none 0 0, .string ⟨#[]⟩, .int .i64 0, .int .i64 0, .string ⟨#[]⟩]) := Blk.new _ _ _
  obtain ⟨A0, c0, rfl⟩ := own_shape ho
  clear hi0 hz0 hz1 hz2 hG hb ho hP
  go_enter Tryz.func134, Tryz.ntmps134
  go_wp2_with fail
  generalize w.alloc (.cells #[.int .i64 3, .string ⟨#[47]⟩, .int .i64 2, .string ⟨#[]⟩, .string ⟨#[]⟩, .int .i64 0, .bool false, .slice none 0 0, .string ⟨#[]⟩, .int .i64 0, .int .i64 0, .string ⟨#[]⟩] 27) = w1 at *
  refine (s_put_C b σ w1 HG1.out).mono ?_; rintro e w2 ⟨rfl, hP⟩
  have HP2 := Lib.hid (HP1.out.trans hP)
  have HB2 := Lib.hid (hP.blk HB1.out fun hf => hf)
  have HO2 := Lib.hid (hP.own HO1.out fun _ _ hf => hf)
  have hlt2 := HB2.out.lt
  clear hP
  have d0 := HB2.out.cell 0
  simp at d0
  have HK3 : Hid (Pure w2 (w2.alloc (.cells #[.string bC] 9))) := (Keep.refl _ _).alloc _
  have HB3 := Lib.hid (HK3.out.blk HB2.out fun hf => hf)
  have HO3 := Lib.hid (HK3.out.own HO2.out fun _ _ hf => hf)
  have hbs : h ≤ (w2.alloc (.cells #[.string bC] 9)).heap.size := by have := HK3.out.size; omega
  have HBS := Lib.hid hbs
  clear hbs
  go_wp2_with (at_builtin; refine wpList_append_own _ rfl (.tmp 12) (.tmp 14) 43 rfl h 9 i0 (.string ⟨#[]⟩) 1 16 Tryz.underlying43 HI0.out HI1.out HI2.out HI3.out rfl (by decide) (.slice A0 n c0) n xs rfl HO3.out ⟨w2.heap.size, 0, none⟩ 1 1 [.string bC] rfl rfl ?news ?one ?mx ?bb ?bs ?k)
  case mx => unfold maxLen; omega
  case bb => omega
  case bs => have h := HBS.out; simpa using h
  case news =>
    intro j u hu
    have h := (Blk.new w2 9 #[.string bC]).cell j
    rw [Addr.add_lit]
    simp only [Nat.zero_add]
    rw [h]
    simpa using hu
  case one => intro u hu; simp at hu; subst hu; rfl
  case k =>
    intro v' w5 hown5 hgrow _
    have K5 : Keep (fun k => (Value.slice A0 n c0).ownBlock = some k) w2 w5 := (Keep.of_pure HK3.out).grown hgrow fun k hk => .inl hk
    have hb5 : Blk w5 h 43 #[.slice A0 n c0] := K5.blk HB2.out fun e => HB2.out.ne_own HO2.out (by decide) h e rfl
    have HB5 := Lib.hid hb5
    have d1 := hb5.cell 0
    have f1 := hb5.frozen 0
    simp at d1
    have HO5 := Lib.hid hown5
    have HK5 : Hid (Keep (fun k => h ≤ k) w w5) := (Keep.of_pure HP2.out).trans (Keep.mono K5 fun k _ hk => own_ge HO2.out k hk)
    obtain ⟨A5, c5, rfl⟩ := own_shape hown5
    clear hown5 hgrow hb5 K5
    go_wp2_with fail
    go_end0
    have hset := ((Keep.refl (fun k => k = h) w5).setCell (p := ⟨h, 0, none⟩) (.inl rfl) (.slice A5 (n + 1) c5)).own HO5.out (HB5.out.ne_own HO5.out (by decide))
    refine ⟨rfl, HK5.out.setCell (.inl (Nat.le_refl _)) _, .slice A5 (n + 1) c5, _, ?_, hset⟩
    have h := HB5.out.set_ 0 (.slice A5 (n + 1) c5)
    simpa using h

set_option maxRecDepth 100000 in
set_option maxHeartbeats 2000000 in
theorem rw_put_A (A : Option Addr) (c : Nat) (b : Nat) (σ : Nat → Addr) (h n : Nat) (v : Value) (xs : List Value) (w : World) (hG : Gl b σ w) (hn : n ≤ 1000) (hb : Blk w h 43 #[v]) (ho : w.ownsRow h 9 1 v n xs) :
    Calls Tryz.prog 134 #[.agg #[.int .i64 1, .string ⟨#[103]⟩, .int .i64 2, .string ⟨#[116]⟩, .string ⟨#[120]⟩, .int .i64 1, .bool false, .slice A 0 c, .string ⟨#[]⟩, .int .i64 1099511627776, .int .i64 2, .string ⟨#[103]⟩], .pointer (some ⟨h, 0, none⟩)] w (RwPost h n w) := by
  obtain ⟨i0, hi0, hz0, hz1, hz2⟩ := info_parts info_str
  have HI0 : Hid (Tryz.prog.info? 9 = some i0) := hi0
  have HI1 := Lib.hid hz0
  have HI2 := Lib.hid hz1
  have HI3 := Lib.hid hz2
  have hP : Pure w (w.alloc (.cells #[.int .i64 1, .string ⟨#[103]⟩, .int .i64 2, .string ⟨#[116]⟩, .string ⟨#[120]⟩, .int .i64 1, .bool false, .slice A 0 c, .string ⟨#[]⟩, .int .i64 1099511627776, .int .i64 2, .string ⟨#[103]⟩] 27)) := (Keep.refl _ w).alloc _
  have HP1 := Lib.hid hP
  have HG1 := Lib.hid (hG.pure hP)
  have HB1 := Lib.hid (hP.blk hb fun hf => hf)
  have HO1 := Lib.hid (hP.own ho fun _ _ hf => hf)
  have HX1 : Hid (Blk (w.alloc (.cells #[.int .i64 1, .string ⟨#[103]⟩, .int .i64 2, .string ⟨#[116]⟩, .string ⟨#[120]⟩, .int .i64 1, .bool false, .slice A 0 c, .string ⟨#[]⟩, .int .i64 1099511627776, .int .i64 2, .string ⟨#[103]⟩] 27)) w.heap.size 27 #[.int .i64 1, .string ⟨#[103]⟩, .int .i64 2, .string ⟨#[116]⟩, .string ⟨#[120]⟩, .int .i64 1, .bool false, .slice A 0 c, .string ⟨#[]⟩, .int .i64 1099511627776, .int .i64 2, .string ⟨#[103]⟩]) := Blk.new _ _ _
  obtain ⟨A0, c0, rfl⟩ := own_shape ho
  clear hi0 hz0 hz1 hz2 hG hb ho hP
  go_enter Tryz.func134, Tryz.ntmps134
  go_wp2_with fail
  generalize w.alloc (.cells #[.int .i64 1, .string ⟨#[103]⟩, .int .i64 2, .string ⟨#[116]⟩, .string ⟨#[120]⟩, .int .i64 1, .bool false, .slice A 0 c, .string ⟨#[]⟩, .int .i64 1099511627776, .int .i64 2, .string ⟨#[103]⟩] 27) = w1 at *
  refine (s_put_A A c b σ w1 HG1.out).mono ?_; rintro e w2 ⟨rfl, hP⟩
  have HP2 := Lib.hid (HP1.out.trans hP)
  have HB2 := Lib.hid (hP.blk HB1.out fun hf => hf)
  have HO2 := Lib.hid (hP.own HO1.out fun _ _ hf => hf)
  have hlt2 := HB2.out.lt
  clear hP
  have d0 := HB2.out.cell 0
  simp at d0
  have HK3 : Hid (Pure w2 (w2.alloc (.cells #[.string bA] 9))) := (Keep.refl _ _).alloc _
  have HB3 := Lib.hid (HK3.out.blk HB2.out fun hf => hf)
  have HO3 := Lib.hid (HK3.out.own HO2.out fun _ _ hf => hf)
  have hbs : h ≤ (w2.alloc (.cells #[.string bA] 9)).heap.size := by have := HK3.out.size; omega
  have HBS := Lib.hid hbs
  clear hbs
  go_wp2_with (at_builtin; refine wpList_append_own _ rfl (.tmp 12) (.tmp 14) 43 rfl h 9 i0 (.string ⟨#[]⟩) 1 16 Tryz.underlying43 HI0.out HI1.out HI2.out HI3.out rfl (by decide) (.slice A0 n c0) n xs rfl HO3.out ⟨w2.heap.size, 0, none⟩ 1 1 [.string bA] rfl rfl ?news ?one ?mx ?bb ?bs ?k)
  case mx => unfold maxLen; omega
  case bb => omega
  case bs => have h := HBS.out; simpa using h
  case news =>
    intro j u hu
    have h := (Blk.new w2 9 #[.string bA]).cell j
    rw [Addr.add_lit]
    simp only [Nat.zero_add]
    rw [h]
    simpa using hu
  case one => intro u hu; simp at hu; subst hu; rfl
  case k =>
    intro v' w5 hown5 hgrow _
    have K5 : Keep (fun k => (Value.slice A0 n c0).ownBlock = some k) w2 w5 := (Keep.of_pure HK3.out).grown hgrow fun k hk => .inl hk
    have hb5 : Blk w5 h 43 #[.slice A0 n c0] := K5.blk HB2.out fun e => HB2.out.ne_own HO2.out (by decide) h e rfl
    have HB5 := Lib.hid hb5
    have d1 := hb5.cell 0
    have f1 := hb5.frozen 0
    simp at d1
    have HO5 := Lib.hid hown5
    have HK5 : Hid (Keep (fun k => h ≤ k) w w5) := (Keep.of_pure HP2.out).trans (Keep.mono K5 fun k _ hk => own_ge HO2.out k hk)
    obtain ⟨A5, c5, rfl⟩ := own_shape hown5
    clear hown5 hgrow hb5 K5
    go_wp2_with fail
    go_end0
    have hset := ((Keep.refl (fun k => k = h) w5).setCell (p := ⟨h, 0, none⟩) (.inl rfl) (.slice A5 (n + 1) c5)).own HO5.out (HB5.out.ne_own HO5.out (by decide))
    refine ⟨rfl, HK5.out.setCell (.inl (Nat.le_refl _)) _, .slice A5 (n + 1) c5, _, ?_, hset⟩
    have h := HB5.out.set_ 0 (.slice A5 (n + 1) c5)
    simpa using h

def RwEnd (w : World) (e : Ending) (w' : World) : Prop := Pure w w' ∧ ∃ A c, e = .returned (.slice A 2 c)
set_option maxRecDepth 100000 in
set_option maxHeartbeats 2000000 in
theorem s_rewrite (A : Option Addr) (c : Nat) (b : Nat) (σ : Nat → Addr) (h cl : Nat) (w : World) (hG : Gl b σ w) (hc : ∀ j u, (#[.string ⟨#[116]⟩, .string ⟨#[120]⟩, .int .i64 1, .bool false, .slice A 0 c, .string ⟨#[]⟩, .int .i64 1099511627776, .int .i64 2, .string ⟨#[103]⟩] : Array Value)[j]? = some u → w.cell? ⟨h, j, none⟩ = some u) :
    Calls Tryz.prog 60 #[.slice (some ⟨h, 0, none⟩) 1 cl, .int .i64 2] w (RwEnd w) := by
  have hlt : h < w.heap.size := World.block_lt_of_cell? w ⟨h, 0, none⟩ (hc 0 _ rfl)
  have HC := Lib.hid hc
  have hP : Pure w (w.alloc (.cells #[.slice none 0 0] 43)) := (Keep.refl _ w).alloc _
  have HP1 := Lib.hid hP
  have HG1 := Lib.hid (hG.pure hP)
  have HB1 : Hid (Blk (w.alloc (.cells #[.slice none 0 0] 43)) w.heap.size 43 #[.slice none 0 0]) := Blk.new _ _ _
  have hbw := hG.size
  clear hc hG hP
  go_enter Tryz.func60, Tryz.ntmps60
  go_wp2_with fail
  generalize w.alloc (.cells #[.slice none 0 0] 43) = w1 at *
  refine (rw_put_C b σ w.heap.size 0 (.slice none 0 0) [] w1 HG1.out (by omega) HB1.out (World.ownsRow_nil _ _ _ _)).mono ?_; rintro e w2 ⟨rfl, hK, v, xs, hB, hO⟩
  have HB2 := Lib.hid hB
  have HO2 := Lib.hid hO
  have HP2 : Hid (Pure w w2) := HP1.out.seq hK fun i hi => .inr hi
  have HG2 : Hid (Gl b σ w2) := HG1.out.keep hK fun i hi => by omega
  have HC2 : Hid (∀ j u, (#[.string ⟨#[116]⟩, .string ⟨#[120]⟩, .int .i64 1, .bool false, .slice A 0 c, .string ⟨#[]⟩, .int .i64 1099511627776, .int .i64 2, .string ⟨#[103]⟩] : Array Value)[j]? = some u → w2.cell? ⟨h, j, none⟩ = some u) := fun j u hu => (HP2.out.cell (p := ⟨h, j, none⟩) hlt (fun hf => hf)).trans (HC.out j u hu)
  clear hK hB hO
  have d0 := HC2.out 0 _ rfl
  have d1 := HC2.out 1 _ rfl
  have d2 := HC2.out 2 _ rfl
  have d3 := HC2.out 3 _ rfl
  have d4 := HC2.out 4 _ rfl
  have d5 := HC2.out 5 _ rfl
  have d6 := HC2.out 6 _ rfl
  have d7 := HC2.out 7 _ rfl
  have d8 := HC2.out 8 _ rfl
  generalize hg : w.heap.size = g at *
  have HGW := Lib.hid hg
  clear hg
  go_wp2_with fail
  go_loopw [16] (fun i wr => (i = .int .i64 0 ∧ Hid (wr = w2)) ∨ (i = .int .i64 1 ∧ Hid (Pure w wr ∧ ∃ v xs, Blk wr g 43 #[v] ∧ wr.ownsRow g 9 1 v 2 xs))) (fun i _ => 1 - (intOf i).toNat)
  case atStart => exact .inl ⟨rfl, rfl⟩
  case round =>
    rcases hrel with ⟨rfl, hw⟩ | ⟨rfl, HX⟩
    · obtain rfl := hw.out
      have hPa : Pure wr (wr.alloc (.cells #[.string ⟨#[116]⟩, .string ⟨#[120]⟩, .int .i64 1, .bool false, .slice A 0 c, .string ⟨#[]⟩, .int .i64 1099511627776, .int .i64 2, .string ⟨#[103]⟩] 25)) := (Keep.refl _ wr).alloc _
      have HP3 := Lib.hid (HP2.out.trans hPa)
      have HG3 := Lib.hid (HG2.out.pure hPa)
      have HB3 := Lib.hid (hPa.blk HB2.out fun hf => hf)
      have HO3 := Lib.hid (hPa.own HO2.out fun _ _ hf => hf)
      clear hPa
      go_wp2_with fail
      generalize wr.alloc (.cells #[.string ⟨#[116]⟩, .string ⟨#[120]⟩, .int .i64 1, .bool false, .slice A 0 c, .string ⟨#[]⟩, .int .i64 1099511627776, .int .i64 2, .string ⟨#[103]⟩] 25) = w3 at *
      refine (rw_put_A A c b σ g 1 v xs w3 HG3.out (by omega) HB3.out HO3.out).mono ?_; rintro e w4 ⟨rfl, hK, v4, xs4, hB, hO⟩
      have HX : Hid (Pure w w4 ∧ ∃ v xs, Blk w4 g 43 #[v] ∧ w4.ownsRow g 9 1 v 2 xs) := ⟨HP3.out.seq hK fun i hi => .inr (by rw [HGW.out]; exact hi), v4, xs4, hB, hO⟩
      clear hK hB hO
      go_wp2_with fail
      go_roundw
      case rel => exact .inr ⟨rfl, HX⟩
      case measure => simp [intOf]
    · obtain ⟨hP, v4, xs4, hB, hO⟩ := HX.out
      obtain ⟨A4, c4, rfl⟩ := own_shape hO
      have HP := Lib.hid hP
      have e0 := hB.cell 0
      simp at e0
      clear hP hB hO d0 d1 d2 d3 d4 d5 d6 d7 d8
      go_wp2_with fail
      go_ret
      exact ⟨HP.out, A4, c4, rfl⟩
end Go.Proofs.YthokkjdolcfhcaaGreatDoor

set_option linter.unusedVariables false
namespace Go.Proofs.YthokkjdolcfhcaaGreatDoor
open Go.RowKit

set_option maxRecDepth 100000 in
set_option maxHeartbeats 2000000 in
theorem l34_same_none (b : Nat) (σ : Nat → Addr) (w : World) (hG : Gl b σ w) :
    Calls Tryz.prog 18 #[.nilIface, fltVal 0 0 0] w fun e w' => e = .returned (.bool true) ∧ Pure w w' := by
  have HP : Hid (Pure w (w.alloc (.cells #[.int .i64 0, .int .i64 0, .int .i64 0] 34))) := (Keep.refl _ w).alloc _
  have HB : Hid (Blk (w.alloc (.cells #[.int .i64 0, .int .i64 0, .int .i64 0] 34)) w.heap.size 34 #[.int .i64 0, .int .i64 0, .int .i64 0]) := Blk.new _ _ _
  simp only [fltVal]
  go_enter Tryz.func18, Tryz.ntmps18
  go_wp2_with fail
  generalize w.alloc (.cells #[.int .i64 0, .int .i64 0, .int .i64 0] 34) = w1 at *
  have c0 := HB.out.cell 0
  have c1 := HB.out.cell 1
  have c2 := HB.out.cell 2
  have hlt := HB.out.lt
  simp at c0 c1 c2
  go_quiet ((go_at_call 54; exact Calls.quiet_of_same ((number_nil _).mono fun _ _ h => ⟨h.1, h.2.symm⟩)))
  all_goals
    go_wp2_with fail
    go_ret
    refine ⟨rfl, HP.out.trans ?_⟩
    repeat (first | (with_reducible refine Keep.drew ?_) | (with_reducible refine Keep.drewN ?_ _) | (with_reducible refine Keep.alloc ?_ _) | (with_reducible refine Keep.setCell ?_ (by first | (simp; done) | (simp; omega)) _))
    exact Keep.refl _ _

set_option maxRecDepth 100000 in
set_option maxHeartbeats 4000000 in
theorem l34_same_some (b : Nat) (σ : Nat → Addr) (f : Flt) (g : Nat) (w : World) (hG : Gl b σ w) (hf : f.ok) (hc : ErC σ w g f) :
    Calls Tryz.prog 18 #[.iface 148 (.pointer (some ⟨g, 0, none⟩)), fltVal f.k f.r f.a] w fun e w' => e = .returned (.bool true) ∧ Pure w w' := by
  have HP : Hid (Pure w (w.alloc (.cells #[.int .i64 f.k, .int .i64 f.r, .int .i64 f.a] 34))) := (Keep.refl _ w).alloc _
  have HB : Hid (Blk (w.alloc (.cells #[.int .i64 f.k, .int .i64 f.r, .int .i64 f.a] 34)) w.heap.size 34 #[.int .i64 f.k, .int .i64 f.r, .int .i64 f.a]) := Blk.new _ _ _
  have HG := Lib.hid (hG.pure HP.out)
  have HC := Lib.hid (hc.keep HP.out fun _ _ _ hf => hf)
  have HF := Lib.hid hf
  have hk0 : ((f.k : Int) == 0) = false := by have := hf.1; simp; omega
  have hk1 : ((f.k : Int) == (f.k : Int)) = true := by simp
  have hr1 : (f.r == f.r) = true := by simp
  have ha1 : (f.a == f.a) = true := by simp
  clear hG hc hf
  simp only [fltVal]
  go_enter Tryz.func18, Tryz.ntmps18
  go_wp2_with fail
  generalize w.alloc (.cells #[.int .i64 f.k, .int .i64 f.r, .int .i64 f.a] 34) = w1 at *
  have c0 := HB.out.cell 0
  have c1 := HB.out.cell 1
  have c2 := HB.out.cell 2
  have hlt := HB.out.lt
  simp at c0 c1 c2
  go_region_held3 (fun w' => w'.cell? ⟨w.heap.size, 0, none⟩ = some (.int .i64 f.k) ∧ w'.cell? ⟨w.heap.size, 1, none⟩ = some (.int .i64 f.r) ∧ w'.cell? ⟨w.heap.size, 2, none⟩ = some (.int .i64 f.a) ∧ Hid (Pure w1 w'))
    (first | exact keep3 HB (Keep.refl _ _) | exact keep3 HB (Keep.refl _ _).drew | exact keep3 HB (Keep.trans (‹_ ∧ _ ∧ _ ∧ Hid (Pure w1 _)›).2.2.2.out hP))
    (first | (go_at_call 54; refine (number_some σ b g f _ ?_ HF.out ?_).mono ?_; (exact HG.out.pure (‹_ ∧ _ ∧ _ ∧ Hid (Pure w1 _)›).2.2.2.out); (exact HC.out.keep (‹_ ∧ _ ∧ _ ∧ Hid (Pure w1 _)›).2.2.2.out fun _ _ _ hf => hf); rintro e w2 ⟨rfl, hP⟩) | (go_at_call 75; refine (reason_some σ b g f _ ?_ ?_).mono ?_; (exact HG.out.pure (‹_ ∧ _ ∧ _ ∧ Hid (Pure w1 _)›).2.2.2.out); (exact HC.out.keep (‹_ ∧ _ ∧ _ ∧ Hid (Pure w1 _)›).2.2.2.out fun _ _ _ hf => hf); rintro e w2 ⟨rfl, hP⟩) | (go_at_call 76; refine (at_some σ b g f _ ?_ ?_).mono ?_; (exact HG.out.pure (‹_ ∧ _ ∧ _ ∧ Hid (Pure w1 _)›).2.2.2.out); (exact HC.out.keep (‹_ ∧ _ ∧ _ ∧ Hid (Pure w1 _)›).2.2.2.out fun _ _ _ hf => hf); rintro e w2 ⟨rfl, hP⟩))
  all_goals
    go_wp2_with fail
    go_ret
    exact ⟨rfl, HP.out.trans (‹_ ∧ _ ∧ _ ∧ Hid (Pure w1 _)›).2.2.2.out⟩

theorem l34_same (b : Nat) (σ : Nat → Addr) (fo : Option Flt) (v : Value) (w : World) (hG : Gl b σ w) (hE : Er σ w v fo) :
    Calls Tryz.prog 18 #[v, fltVal (fk fo) (fr fo) (fa fo)] w fun e w' => e = .returned (.bool true) ∧ Pure w w' := by
  cases fo with
  | none =>
    simp only [Er] at hE
    subst hE
    exact l34_same_none b σ w hG
  | some f =>
    obtain ⟨hf, g, rfl, hc⟩ := hE
    exact l34_same_some b σ f g w hG hf hc
end Go.Proofs.YthokkjdolcfhcaaGreatDoor

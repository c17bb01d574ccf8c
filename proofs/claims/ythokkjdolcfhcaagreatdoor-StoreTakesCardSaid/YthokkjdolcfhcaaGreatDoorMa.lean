/- Words for memory that all walks of this seat use: blocks known whole, what a call may turn, errors as they lie in memory, the package-level variables. No program is walked here. Plain functions: what package fault reckons. No program, no memory. Plain functions: variable byte integers. Plain functions: letters of texts. Plain functions: the reader of package field, and what it reads. No program, no memory. Bits of ints that are not below 0, as plain sums. No program. Plain functions: properties. A slice that reads as a list, nil let in (after the guide's words to copy); lists of ints, texts, properties as they lie in memory. Owned rows: small facts. Plain functions: the writer of package field, and the bytes of numbers. Plain functions: variable byte integers, put. Plain functions: the reference's letters are the program's. Plain functions: what a reader's error may be. -/
import Derived.Below
import Derived.Laws.OwnMore
import Derived.Deep.Draws
import Derived.Laws.Rows
import Derived.WalkKit
import Derived.Laws.BitsAllLaws
import Derived.Laws.BitsLemmas
import Derived.Deep.AppendLies
import Derived.Maps.AppendAt
import Derived.Lib.AppendStr

set_option linter.unusedVariables false
namespace Go.Proofs.YthokkjdolcfhcaaGreatDoor
open Go.RowKit

/-! ### 1. A block known whole -/
def Blk (w : World) (g : Nat) (t : TypeId) (cs : Array Value) : Prop := w.heap[g]? = some (.cells cs t (0, 0))

section
variable {w w' : World} {g : Nat} {t : TypeId} {cs : Array Value}
theorem Blk.lt (h : Blk w g t cs) : g < w.heap.size := by
  rcases Nat.lt_or_ge g w.heap.size with hlt | hge
  · exact hlt
  · unfold Blk at h; rw [Array.getElem?_eq_none hge] at h; cases h
theorem Blk.cell (h : Blk w g t cs) (i : Nat) : w.cell? ⟨g, i, none⟩ = cs[i]? := cell_of_row w g i cs t (0, 0) h
theorem Blk.frozen (h : Blk w g t cs) (i : Nat) : w.frozen? ⟨g, i, none⟩ = false := by
  unfold Blk at h
  simp [World.frozen?, h]
theorem Blk.new (w : World) (t : TypeId) (cs : Array Value) : Blk (w.alloc (.cells cs t)) w.heap.size t cs := heap_alloc_new w _
theorem Blk.alloc (h : Blk w g t cs) (o : Obj) : Blk (w.alloc o) g t cs := (Below.heap_alloc w o g h.lt).trans h
theorem Blk.set_ (h : Blk w g t cs) (i : Nat) (u : Value) : Blk (w.setCell ⟨g, i, none⟩ u) g t (cs.setIfInBounds i u) := by
  unfold Blk at h ⊢
  simp [World.setCell, Array.getElem?_modify, h]
theorem Blk.far (h : Blk w g t cs) {p : Addr} (hp : g ≠ p.block) (u : Value) : Blk (w.setCell p u) g t cs := (Below.heap_setCell w p u g hp).trans h
theorem Blk.ne_ {g' : Nat} {t' : TypeId} {cs' : Array Value} (h : Blk w g t cs) (h' : Blk w g' t' cs') (hne : t ≠ t') : g ≠ g' := by
  rintro rfl
  unfold Blk at h h'
  rw [h] at h'
  injection h' with h'
  injection h' with _ ht
  exact hne ht
end

/-! ### 2. What a call may turn: the blocks of S, and what is new -/
structure Keep (S : Nat → Prop) (w w' : World) : Prop where
  os : w'.os = w.os
  tape : w'.tape = w.tape
  output : w'.output = w.output
  size : w.heap.size ≤ w'.heap.size
  block : ∀ k, k < w.heap.size → ¬ S k → w'.heap[k]? = w.heap[k]?

/-- Nothing but what is new. -/
abbrev Pure (w w' : World) : Prop := Keep (fun _ => False) w w'
/-- Nothing but block g and what is new. -/
abbrev Only (g : Nat) (w w' : World) : Prop := Keep (fun k => k = g) w w'

section
variable {S T : Nat → Prop} {w w' w'' : World} {g : Nat} {t : TypeId} {cs : Array Value}
theorem Keep.refl (S : Nat → Prop) (w : World) : Keep S w w := ⟨rfl, rfl, rfl, Nat.le_refl _, fun _ _ _ => rfl⟩
theorem Keep.trans (h : Keep S w w') (k : Keep S w' w'') : Keep S w w'' :=
  ⟨k.os.trans h.os, k.tape.trans h.tape, k.output.trans h.output, Nat.le_trans h.size k.size,
    fun i hi hs => (k.block i (Nat.lt_of_lt_of_le hi h.size) hs).trans (h.block i hi hs)⟩
theorem Keep.mono (h : Keep S w w') (hST : ∀ k, k < w.heap.size → S k → T k) : Keep T w w' :=
  ⟨h.os, h.tape, h.output, h.size, fun k hk hT => h.block k hk fun hS => hT (hST k hk hS)⟩
theorem Keep.of_pure (h : Pure w w') : Keep S w w' := h.mono fun _ _ hf => hf.elim
theorem Keep.drew (h : Keep S w w') : Keep S w w'.drew := ⟨h.os, h.tape, h.output, h.size, h.block⟩
theorem Keep.drewN (h : Keep S w w') (n : Nat) : Keep S w (w'.drewN n) := ⟨h.os, h.tape, h.output, h.size, h.block⟩
theorem Keep.alloc (h : Keep S w w') (o : Obj) : Keep S w (w'.alloc o) :=
  ⟨h.os, h.tape, h.output, Nat.le_trans h.size (by simp), fun k hk hs => (Below.heap_alloc w' o k (Nat.lt_of_lt_of_le hk h.size)).trans (h.block k hk hs)⟩
theorem Keep.setCell (h : Keep S w w') {p : Addr} (hp : S p.block ∨ w.heap.size ≤ p.block) (u : Value) : Keep S w (w'.setCell p u) :=
  ⟨h.os, h.tape, h.output, by simpa [World.setCell] using h.size, fun k hk hs => (Below.heap_setCell w' p u k (by
    rintro rfl
    rcases hp with hp | hp
    · exact hs hp
    · omega)).trans (h.block k hk hs)⟩
theorem Keep.grown {row : Option Nat} (h : Keep S w w') (hg : w'.grownBy w'' row) (hr : ∀ k, row = some k → S k ∨ w.heap.size ≤ k) : Keep S w w'' :=
  ⟨hg.os.trans h.os, hg.tape.trans h.tape, hg.output.trans h.output, Nat.le_trans h.size hg.size, fun k hk hs => (hg.block k (Nat.lt_of_lt_of_le hk h.size) (by
    intro e
    rcases hr k e.symm with h1 | h1
    · exact hs h1
    · omega)).trans (h.block k hk hs)⟩
theorem Keep.of_below (h : Below w.heap.size w w') : Keep S w w' := ⟨h.os, h.tape, h.output, h.size, fun k hk _ => h.block k hk⟩
theorem Keep.below (h : Pure w w') : Below w.heap.size w w' := ⟨h.os, h.tape, h.output, h.size, fun k hk => h.block k hk id⟩
theorem Keep.blk (h : Keep S w w') (hb : Blk w g t cs) (hs : ¬ S g) : Blk w' g t cs := (h.block g hb.lt hs).trans hb
theorem Keep.seq (h : Keep S w w') (k : Keep T w' w'') (hT : ∀ i, T i → S i ∨ w.heap.size ≤ i) : Keep S w w'' :=
  ⟨k.os.trans h.os, k.tape.trans h.tape, k.output.trans h.output, Nat.le_trans h.size k.size, fun i hi hs => (k.block i (Nat.lt_of_lt_of_le hi h.size) fun ht => by
    rcases hT i ht with h1 | h1
    · exact hs h1
    · omega).trans (h.block i hi hs)⟩
theorem Keep.cell (h : Keep S w w') {p : Addr} (hp : p.block < w.heap.size) (hs : ¬ S p.block) : w'.cell? p = w.cell? p := World.cell?_of_block (w := w) (h.block p.block hp hs)
theorem Keep.frozen (h : Keep S w w') {p : Addr} (hp : p.block < w.heap.size) (hs : ¬ S p.block) : w'.frozen? p = w.frozen? p := World.frozen?_of_block (w := w) (h.block p.block hp hs)
theorem Keep.own (h : Keep S w w') {base e size n : Nat} {v : Value} {xs : List Value} (ho : w.ownsRow base e size v n xs) (hs : ∀ k, v.ownBlock = some k → ¬ S k) : w'.ownsRow base e size v n xs := by
  refine ⟨ho.1, ?_⟩
  rcases ho.2 with hn | ⟨g, cap, cur, rfl, hb, hh, r⟩
  · exact .inl hn
  · exact .inr ⟨g, cap, cur, rfl, hb, (h.block g (Array.getElem?_eq_some_iff.1 hh).1 (hs g rfl)).trans hh, r⟩
end

/-! ### 3. The package-level variables: what their cells hold. Sentinel k (1: short, 2: malformed, 3: protocol, 4: too large, 5: quota, 6: state, 7: argument) lies at σ k. -/
structure Gl (b : Nat) (σ : Nat → Addr) (w : World) : Prop where
  c1 : w.cell? ⟨2, 0, none⟩ = some (.iface 256 (.pointer (some (σ 1))))
  c2 : w.cell? ⟨0, 0, none⟩ = some (.iface 256 (.pointer (some (σ 2))))
  c3 : w.cell? ⟨3, 0, none⟩ = some (.iface 256 (.pointer (some (σ 3))))
  c4 : w.cell? ⟨4, 0, none⟩ = some (.iface 256 (.pointer (some (σ 4))))
  c5 : w.cell? ⟨5, 0, none⟩ = some (.iface 256 (.pointer (some (σ 5))))
  c6 : w.cell? ⟨6, 0, none⟩ = some (.iface 256 (.pointer (some (σ 6))))
  c7 : w.cell? ⟨1, 0, none⟩ = some (.iface 256 (.pointer (some (σ 7))))
  et : w.cell? ⟨7, 0, none⟩ = some (.iface 232 (.agg #[.pointer (some ⟨8, 29, none⟩)]))
  sent : ∀ k, 1 ≤ k → k ≤ 7 → ∃ c t, w.heap[(σ k).block]? = some (.cells c t (0, 0))
  ne : ∀ j k, 1 ≤ j → j ≤ 7 → 1 ≤ k → k ≤ 7 → j ≠ k → σ j ≠ σ k
  low : 8 ≤ b
  slt : ∀ k, 1 ≤ k → k ≤ 7 → (σ k).block < b
  size : b ≤ w.heap.size

section
variable {b : Nat} {σ : Nat → Addr} {S : Nat → Prop} {w w' : World}
theorem Gl.keep (h : Gl b σ w) (k : Keep S w w') (hS : ∀ i, S i → b ≤ i) : Gl b σ w' := by
  have hb := h.size
  have hl := h.low
  have kc : ∀ i, i < 8 → w'.cell? ⟨i, 0, none⟩ = w.cell? ⟨i, 0, none⟩ := fun i hi => k.cell (p := ⟨i, 0, none⟩) (by show i < _; omega) (fun hs => by have := hS _ hs; simp at this; omega)
  refine ⟨(kc _ (by omega)).trans h.c1, (kc _ (by omega)).trans h.c2, (kc _ (by omega)).trans h.c3, (kc _ (by omega)).trans h.c4, (kc _ (by omega)).trans h.c5, (kc _ (by omega)).trans h.c6, (kc _ (by omega)).trans h.c7, (kc _ (by omega)).trans h.et, ?_, h.ne, hl, h.slt, Nat.le_trans hb k.size⟩
  intro j h1 h2
  obtain ⟨c, t, e⟩ := h.sent j h1 h2
  have hlt := h.slt j h1 h2
  exact ⟨c, t, (k.block _ (by omega) (fun hs => by have := hS _ hs; omega)).trans e⟩
theorem Gl.pure (h : Gl b σ w) (k : Pure w w') : Gl b σ w' := h.keep k fun _ hf => hf.elim
theorem Gl.drew (h : Gl b σ w) : Gl b σ w.drew := h.pure (Keep.refl _ w).drew
theorem Gl.drewN (h : Gl b σ w) (n : Nat) : Gl b σ (w.drewN n) := h.pure ((Keep.refl _ w).drewN n)
theorem Gl.alloc (h : Gl b σ w) (o : Obj) : Gl b σ (w.alloc o) := h.pure ((Keep.refl _ w).alloc o)
end

/-! ### 4. Faults in memory -/
/-- An error: the number of its kind, its reason, its place. -/
structure Flt where
  k : Nat
  r : Int
  a : Int

/-- The kind is one of the seven. -/
def Flt.ok (f : Flt) : Prop := 1 ≤ f.k ∧ f.k ≤ 7

/-- Block g holds a fault; what it wraps lies ahead of it. -/
inductive ErC (σ : Nat → Addr) (w : World) : Nat → Flt → Prop
  | base (g k : Nat) (r a : Int) (h : Blk w g 150 #[.int .i64 r, .int .i64 a, .iface 256 (.pointer (some (σ k)))]) : ErC σ w g ⟨k, r, a⟩
  | step (g g' : Nat) (f : Flt) (r a : Int) (h : Blk w g 150 #[.int .i64 r, .int .i64 a, .iface 148 (.pointer (some ⟨g', 0, none⟩))]) (hlt : g' < g) (hc : ErC σ w g' f) : ErC σ w g ⟨f.k, r, a⟩

/-- An error's value. -/
def Er (σ : Nat → Addr) (w : World) (v : Value) : Option Flt → Prop
  | none => v = .nilIface
  | some f => f.ok ∧ ∃ g, v = .iface 148 (.pointer (some ⟨g, 0, none⟩)) ∧ ErC σ w g f

section
variable {σ : Nat → Addr} {S : Nat → Prop} {w w' : World}
theorem ErC.blk {g : Nat} {f : Flt} (h : ErC σ w g f) : ∃ x, Blk w g 150 #[.int .i64 f.r, .int .i64 f.a, x] := by
  cases h with
  | base _ k r a h => exact ⟨_, h⟩
  | step _ g' f r a h _ _ => exact ⟨_, h⟩
theorem ErC.keep {g : Nat} {f : Flt} (h : ErC σ w g f) (k : Keep S w w') (hS : ∀ i cs, Blk w i 150 cs → ¬ S i) : ErC σ w' g f := by
  induction h with
  | base g kk r a h => exact .base g kk r a (k.blk h (hS _ _ h))
  | step g g' f r a h hlt _ ih => exact .step g g' f r a (k.blk h (hS _ _ h)) hlt ih
theorem Er.keep {v : Value} {f : Option Flt} (h : Er σ w v f) (k : Keep S w w') (hS : ∀ i cs, Blk w i 150 cs → ¬ S i) : Er σ w' v f := by
  cases f with
  | none => exact h
  | some f => obtain ⟨ho, g, e, hc⟩ := h; exact ⟨ho, g, e, hc.keep k hS⟩
theorem Er.pure {v : Value} {f : Option Flt} (h : Er σ w v f) (k : Pure w w') : Er σ w' v f := h.keep k fun _ _ _ hf => hf
theorem Er.only {v : Value} {f : Option Flt} {g : Nat} {t : TypeId} {cs : Array Value} (h : Er σ w v f) (k : Only g w w') (hb : Blk w g t cs) (ht : t ≠ 150) : Er σ w' v f :=
  h.keep k fun i cs' hi e => by subst e; exact Blk.ne_ hb hi ht rfl
theorem Er.nil_ : Er σ w .nilIface none := rfl
theorem Er.some_ {v : Value} {f : Flt} (h : Er σ w v (some f)) : f.ok ∧ ∃ g x, v = .iface 148 (.pointer (some ⟨g, 0, none⟩)) ∧ ErC σ w g f ∧ Blk w g 150 #[.int .i64 f.r, .int .i64 f.a, x] := by
  obtain ⟨ho, g, e, hc⟩ := h
  obtain ⟨x, hx⟩ := hc.blk
  exact ⟨ho, g, x, e, hc, hx⟩
end

/-! ### 5. Behind a quiet region -/
section
variable {b : Nat} {σ : Nat → Addr} {S : Nat → Prop} {w w0 : World} {g : Nat} {t : TypeId} {cs : Array Value}
theorem cell_drewN {p : Addr} {v : Option Value} (h : w.cell? p = v) (n : Nat) : (w.drewN n).cell? p = v := h
theorem frz_drewN {p : Addr} {v : Bool} (h : w.frozen? p = v) (n : Nat) : (w.drewN n).frozen? p = v := h
theorem lt_drewN {g : Nat} (h : g < w.heap.size) (n : Nat) : g < (w.drewN n).heap.size := h
theorem blkH_drewN (h : Hid (Blk w g t cs)) (n : Nat) : Hid (Blk (w.drewN n) g t cs) := h
theorem glH_drewN (h : Hid (Gl b σ w)) (n : Nat) : Hid (Gl b σ (w.drewN n)) := h.out.drewN n
theorem keepH_drewN (h : Hid (Keep S w0 w)) (n : Nat) : Hid (Keep S w0 (w.drewN n)) := h.out.drewN n
theorem keepH_new (w : World) (n : Nat) : Hid (Pure w (w.drewN n)) := (Keep.refl _ w).drewN n
theorem erH_drewN {v : Value} {f : Option Flt} (h : Hid (Er σ w v f)) (n : Nat) : Hid (Er σ (w.drewN n) v f) := h.out.pure ((Keep.refl _ w).drewN n)
theorem ercH_drewN {f : Flt} (h : Hid (ErC σ w g f)) (n : Nat) : Hid (ErC σ (w.drewN n) g f) := h.out.keep ((Keep.refl (fun _ => False) w).drewN n) fun _ _ _ hf => hf
theorem ownH_drewN {base e size n : Nat} {v : Value} {xs : List Value} (h : Hid (w.ownsRow base e size v n xs)) (k : Nat) : Hid ((w.drewN k).ownsRow base e size v n xs) := h
end
end Go.Proofs.YthokkjdolcfhcaaGreatDoor

namespace Go.Proofs.YthokkjdolcfhcaaGreatDoor
def holdS (a b : Int) : Int := max (-b) (min a b)
theorem holdS_bd (a : Int) : -18014398509481984 ≤ holdS a 18014398509481984 ∧ holdS a 18014398509481984 ≤ 18014398509481984 := by unfold holdS; omega
def furtherS (a b : Int) : Int := max 0 (min (holdS a 18014398509481984 + holdS b 18014398509481984) 9007199254740992)
theorem furtherS_small {a b : Int} (ha : 0 ≤ a) (hb : 0 ≤ b) (hs : a + b ≤ 9007199254740992) : furtherS a b = a + b := by unfold furtherS holdS; omega
end Go.Proofs.YthokkjdolcfhcaaGreatDoor

namespace Go.Proofs.YthokkjdolcfhcaaGreatDoor
/-- What bytes tell from place k on, n so far: the number and how many bytes, or why not. -/
def vtk : List UInt8 → Nat → Nat → Except Flt (Nat × Nat)
  | [], k, _ => if 4 ≤ k then .error ⟨2, 129, 3⟩ else .error ⟨1, 129, k⟩
  | c :: l, k, n =>
    if 4 ≤ k then .error ⟨2, 129, 3⟩
    else if 128 ≤ c.toNat then vtk l (k + 1) (n + c.toNat % 128 * 128 ^ k)
    else if c.toNat = 0 ∧ 0 < k then .error ⟨2, 129, k⟩
    else .ok (n + c.toNat * 128 ^ k, k + 1)
def vtake (s : ByteArray) : Except Flt (Nat × Nat) := vtk s.data.toList 0 0
theorem digit_lt {n c k : Nat} (hn : n < 128 ^ k) (hc : c < 128) : n + c * 128 ^ k < 128 ^ (k + 1) := by
  have h : (c + 1) * 128 ^ k ≤ 128 * 128 ^ k := Nat.mul_le_mul_right _ (by omega)
  rw [Nat.pow_succ', ]
  rw [Nat.add_mul] at h
  omega
theorem vtk_bound : ∀ (l : List UInt8) (k n m j : Nat), n < 128 ^ k → vtk l k n = .ok (m, j) → k < j ∧ j ≤ 4 ∧ j ≤ k + l.length ∧ m < 128 ^ j := by
  intro l
  induction l with
  | nil => intro k n m j _ h; unfold vtk at h; split at h <;> cases h
  | cons c l ih =>
    intro k n m j hn h
    unfold vtk at h
    split at h
    · cases h
    · split at h
      · obtain ⟨h1, h2, h3, h4⟩ := ih _ _ _ _ (digit_lt hn (by omega)) h
        exact ⟨by omega, h2, by simp only [List.length_cons]; omega, h4⟩
      · split at h
        · cases h
        · injection h with h
          injection h with h1 h2
          subst h1 h2
          exact ⟨by omega, by omega, by simp only [List.length_cons]; omega, digit_lt hn (by omega)⟩
end Go.Proofs.YthokkjdolcfhcaaGreatDoor

namespace Go.Proofs.YthokkjdolcfhcaaGreatDoor
/-- What a letter's first byte tells: how many bytes follow, its bits, the least letter of so many bytes. -/
def uShape (c : Nat) : Nat × Nat × Nat :=
  if 1 ≤ c ∧ c < 128 then (0, c, 1)
  else if 192 ≤ c ∧ c < 224 then (1, c % 32, 128)
  else if 224 ≤ c ∧ c < 240 then (2, c % 16, 2048)
  else if 240 ≤ c ∧ c < 248 then (3, c % 8, 65536)
  else (0, 0, 1)
def uMore : List UInt8 → Nat → Option Nat
  | [], n => some n
  | c :: l, n => if c.toNat / 64 = 2 then uMore l (n * 64 + c.toNat % 64) else none
def uBad (n least : Nat) : Prop := n < least ∨ 1114111 < n ∨ (55296 ≤ n ∧ n ≤ 57343)
instance (n least : Nat) : Decidable (uBad n least) := by unfold uBad; exact inferInstance
/-- How many bytes the letter has that bytes begin with; 0: there is none. -/
def uFirst : List UInt8 → Nat
  | [] => 0
  | c :: l =>
    if l.length < (uShape c.toNat).1 then 0
    else match uMore (l.take (uShape c.toNat).1) (uShape c.toNat).2.1 with
      | none => 0
      | some n => if uBad n (uShape c.toNat).2.2 then 0 else (uShape c.toNat).1 + 1
/-- Letters, as many rounds as are given: how many, and how many bytes they have. -/
def uWalk : Nat → List UInt8 → Nat × Nat
  | 0, _ => (0, 0)
  | f + 1, l => if uFirst l = 0 then (0, 0) else ((uWalk f (l.drop (uFirst l))).1 + 1, (uWalk f (l.drop (uFirst l))).2 + uFirst l)
def uCheck (s : ByteArray) : Option Flt :=
  if 65535 < s.size then some ⟨4, 129, 65535⟩
  else if (uWalk s.size s.data.toList).2 < s.size then some ⟨2, 129, (uWalk s.size s.data.toList).2⟩
  else none

theorem uShape_le (c : Nat) : (uShape c).1 ≤ 3 := by unfold uShape; (repeat' split) <;> simp
theorem uFirst_le (l : List UInt8) : uFirst l ≤ l.length := by
  cases l with
  | nil => simp [uFirst]
  | cons c l =>
    simp only [uFirst, List.length_cons]
    split
    · omega
    · split
      · omega
      · split <;> omega
theorem uFirst_le4 (l : List UInt8) : uFirst l ≤ 4 := by
  cases l with
  | nil => simp [uFirst]
  | cons c l =>
    have := uShape_le c.toNat
    simp only [uFirst]
    split
    · omega
    · split
      · omega
      · split <;> omega
theorem uWalk_le (f : Nat) : ∀ l : List UInt8, (uWalk f l).2 ≤ l.length ∧ (uWalk f l).1 ≤ (uWalk f l).2 := by
  induction f with
  | zero => intro l; simp [uWalk]
  | succ f ih =>
    intro l
    simp only [uWalk]
    split
    · simp
    · have h := ih (l.drop (uFirst l))
      have h2 := uFirst_le l
      simp only [List.length_drop] at h
      omega
/-- More rounds than bytes change nothing. -/
theorem uWalk_more (f : Nat) : ∀ (l : List UInt8) (g : Nat), l.length ≤ f → f ≤ g → uWalk g l = uWalk f l := by
  induction f with
  | zero =>
    intro l g hl hg
    have : l = [] := List.eq_nil_of_length_eq_zero (by omega)
    subst this
    cases g <;> simp [uWalk, uFirst]
  | succ f ih =>
    intro l g hl hg
    obtain ⟨g, rfl⟩ : ∃ m, g = m + 1 := ⟨g - 1, by omega⟩
    simp only [uWalk]
    split
    · rfl
    · rw [ih _ g (by simp; omega) (by omega)]
end Go.Proofs.YthokkjdolcfhcaaGreatDoor

namespace Go.Proofs.YthokkjdolcfhcaaGreatDoor

/-- A reader: all bytes, where it is, and its first error. -/
structure RS where
  s : ByteArray
  at_ : Nat
  e : Option Flt
def RS.Ok (st : RS) : Prop := st.at_ ≤ st.s.size ∧ st.s.size ≤ 140737488351232

def noBytes : ByteArray := ⟨#[]⟩
def RS.fail (st : RS) (k : Nat) (r a : Int) : RS := { st with e := some ⟨k, r, a⟩ }
/-- so many bytes -/
def RS.raw (st : RS) (n : Int) : ByteArray × RS :=
  match st.e with
  | some _ => (noBytes, st)
  | none =>
    if n < 0 then (noBytes, st.fail 4 129 st.at_)
    else if (st.s.size : Int) - st.at_ < n then (noBytes, st.fail 1 129 st.s.size)
    else (st.s.extract st.at_ (st.at_ + n.toNat), { st with at_ := st.at_ + n.toNat })
def be (l : List UInt8) : Nat := l.foldl (fun n c => n * 256 + c.toNat) 0
def RS.num (st : RS) (many : Nat) : Nat × RS := (be (st.raw many).1.data.toList, (st.raw many).2)
def RS.back (st : RS) (a : Nat) : RS := if st.e.isSome then { st with at_ := a } else st
def RS.bin (st : RS) : ByteArray × RS :=
  let x := (st.num 2).2.raw (st.num 2).1
  (x.1, x.2.back st.at_)
def RS.left (st : RS) : Nat := st.s.size - st.at_
def RS.rest (st : RS) : ByteArray × RS := st.raw st.left
def RS.done (st : RS) : Option Flt :=
  match st.e with
  | some f => some f
  | none => if st.at_ < st.s.size then some ⟨2, 129, st.at_⟩ else none

theorem RS.raw_s (st : RS) (n : Int) : (st.raw n).2.s = st.s := by
  unfold RS.raw
  cases st.e with
  | some f => rfl
  | none => simp only; (repeat' split) <;> rfl
theorem RS.raw_ok {st : RS} (h : st.Ok) (n : Int) : (st.raw n).2.Ok := by
  obtain ⟨h1, h2⟩ := h
  unfold RS.raw
  cases he : st.e with
  | some f => exact ⟨h1, h2⟩
  | none =>
    simp only
    split
    · exact ⟨h1, h2⟩
    · split
      · exact ⟨h1, h2⟩
      · exact ⟨by simp only; omega, h2⟩
theorem RS.num_ok {st : RS} (h : st.Ok) (n : Nat) : (st.num n).2.Ok := RS.raw_ok h n
theorem RS.num_s (st : RS) (n : Nat) : (st.num n).2.s = st.s := RS.raw_s st n
theorem RS.back_s (st : RS) (a : Nat) : (st.back a).s = st.s := by unfold RS.back; split <;> rfl
theorem RS.back_ok {st : RS} (h : st.Ok) (a : Nat) (ha : a ≤ st.s.size) : (st.back a).Ok := by
  unfold RS.back
  split
  · exact ⟨ha, h.2⟩
  · exact h
theorem RS.bin_s (st : RS) : st.bin.2.s = st.s := (RS.back_s _ _).trans ((RS.raw_s _ _).trans (RS.num_s _ _))
theorem RS.bin_ok {st : RS} (h : st.Ok) : st.bin.2.Ok :=
  RS.back_ok (RS.raw_ok (RS.num_ok h 2) _) _ (by rw [RS.raw_s, RS.num_s]; exact h.1)

theorem RS.raw_le (st : RS) (n : Int) : (st.raw n).1.size ≤ st.s.size := by
  unfold RS.raw
  cases st.e with
  | some f => exact Nat.zero_le _
  | none =>
    simp only
    split
    · exact Nat.zero_le _
    · split
      · exact Nat.zero_le _
      · simp only [ByteArray.size_extract]; omega
/-- An error of a part, told of the whole. -/
def deeperS (f : Flt) (by_ : Int) : Flt := ⟨f.k, f.r, furtherS f.a by_⟩
def RS.var (st : RS) : Nat × RS :=
  match st.e with
  | some _ => (0, st)
  | none =>
    match vtake (st.s.extract st.at_ st.s.size) with
    | .error f => (0, { st with e := some (deeperS f st.at_) })
    | .ok (n, k) => (n, { st with at_ := st.at_ + k })
def RS.text (st : RS) : ByteArray × RS :=
  match st.bin.2.e with
  | some _ => (noBytes, st.bin.2)
  | none =>
    match uCheck st.bin.1 with
    | some f => (noBytes, ⟨st.s, st.at_, some (deeperS f (st.at_ + 2))⟩)
    | none => st.bin
theorem RS.var_s (st : RS) : st.var.2.s = st.s := by
  unfold RS.var
  cases st.e with
  | some f => rfl
  | none => simp only; cases vtake (st.s.extract st.at_ st.s.size) <;> rfl
theorem RS.var_ok {st : RS} (h : st.Ok) : st.var.2.Ok := by
  unfold RS.var
  cases st.e with
  | some f => exact h
  | none =>
    simp only
    cases hv : vtake (st.s.extract st.at_ st.s.size) with
    | error f => exact h
    | ok x =>
      obtain ⟨n, k⟩ := x
      have hb := vtk_bound _ _ _ _ _ (by simp) hv
      have h1 := h.1
      have hl : (st.s.extract st.at_ st.s.size).data.toList.length ≤ st.s.size - st.at_ := by simp
      exact ⟨by simp only; omega, h.2⟩
theorem RS.text_s (st : RS) : st.text.2.s = st.s := by
  unfold RS.text
  cases st.bin.2.e with
  | some f => exact RS.bin_s st
  | none =>
    simp only
    cases uCheck st.bin.1 with
    | some f => rfl
    | none => exact RS.bin_s st
theorem RS.text_ok {st : RS} (h : st.Ok) : st.text.2.Ok := by
  unfold RS.text
  cases st.bin.2.e with
  | some f => exact RS.bin_ok h
  | none =>
    simp only
    cases uCheck st.bin.1 with
    | some f => exact h
    | none => exact RS.bin_ok h
end Go.Proofs.YthokkjdolcfhcaaGreatDoor

namespace Go.Proofs.YthokkjdolcfhcaaGreatDoor
open Go

theorem ofInt_i64 (a : Nat) (ha : a < 9223372036854775808) : (BitVec.ofInt 64 (a : Int)).toNat = a := by
  rw [BitVec.ofInt_natCast, BitVec.toNat_ofNat]; exact Nat.mod_eq_of_lt (by omega)
theorem i64_and_nat (a b : Nat) (ha : a < 9223372036854775808) (hb : b < 9223372036854775808) : bits .and .i64 (a : Int) (b : Int) = ((a &&& b : Nat) : Int) := by
  have hx : a &&& b < 2 ^ 63 := Nat.and_lt_two_pow _ (by omega)
  show IntKind.i64.wrap ((BitVec.ofInt 64 (a : Int) &&& BitVec.ofInt 64 (b : Int)).toNat : Int) = _
  rw [BitVec.toNat_and, ofInt_i64 a ha, ofInt_i64 b hb, IntKind.wrap_i64]
  omega
theorem i64_or_nat (a b : Nat) (ha : a < 9223372036854775808) (hb : b < 9223372036854775808) : bits .or .i64 (a : Int) (b : Int) = ((a ||| b : Nat) : Int) := by
  have hx : a ||| b < 2 ^ 63 := Nat.or_lt_two_pow (by omega) (by omega)
  show IntKind.i64.wrap ((BitVec.ofInt 64 (a : Int) ||| BitVec.ofInt 64 (b : Int)).toNat : Int) = _
  rw [BitVec.toNat_or, ofInt_i64 a ha, ofInt_i64 b hb, IntKind.wrap_i64]
  omega
theorem nat_or_low (n x k : Nat) (hx : x < 2 ^ k) : (n * 2 ^ k) ||| x = n * 2 ^ k + x := by
  rw [← Nat.shiftLeft_eq]
  exact (Nat.shiftLeft_add_eq_or_of_lt hx n).symm
/-- 'n << 8 | c' of bytes. -/
theorem or_byte (n x : Nat) (hn : n < 4294967296) (hx : x < 256) : bits .or .i64 ((n : Int) * 256) (x : Int) = ((n * 256 + x : Nat) : Int) := by
  have h := i64_or_nat (n * 256) x (by omega) (by omega)
  rw [nat_or_low n x 8 hx] at h
  rw [← h]
  simp
theorem and_127 (x : Nat) (hx : x < 256) : bits .and .i64 (x : Int) 127 = ((x % 128 : Nat) : Int) := by
  have h := i64_and_nat x 127 (by omega) (by omega)
  rw [show (127 : Nat) = 2 ^ 7 - 1 from rfl, Nat.and_two_pow_sub_one_eq_mod] at h
  exact h
theorem or_digit (m y p k : Nat) (hp : p = 128 ^ k) (hk : k ≤ 3) (hm : m < p) (hy : y < 128) : bits .or .i64 (m : Int) ((y : Int) * (p : Int)) = ((m + y * p : Nat) : Int) := by
  subst hp
  have h128 : 128 ^ k ≤ 2097152 := by
    have : 128 ^ k ≤ 128 ^ 3 := Nat.pow_le_pow_right (by omega) hk
    omega
  have hyp : y * 128 ^ k ≤ 127 * 2097152 := Nat.mul_le_mul (by omega) h128
  have h := i64_or_nat m (y * 128 ^ k) (by omega) (by omega)
  have e : m ||| y * 128 ^ k = m + y * 128 ^ k := by
    rw [Nat.or_comm, show (128 : Nat) ^ k = 2 ^ (7 * k) by rw [Nat.pow_mul]]
    rw [nat_or_low y m (7 * k) (by rw [Nat.pow_mul]; exact hm)]
    omega
  rw [e] at h
  rw [← h]
  simp
end Go.Proofs.YthokkjdolcfhcaaGreatDoor

namespace Go.Proofs.YthokkjdolcfhcaaGreatDoor
/-- A property. -/
structure Pr where
  id : Int
  n : Int
  s : ByteArray
  v : ByteArray
def pType (id : Int) : Int :=
  if id ∈ [1, 23, 25, 36, 37, 40, 41, 42] then 1
  else if id ∈ [19, 33, 34, 35] then 2
  else if id ∈ [2, 17, 24, 39] then 4
  else if id = 11 then 5
  else if id ∈ [3, 8, 18, 21, 26, 28, 31] then 6
  else if id ∈ [9, 22] then 7
  else if id = 38 then 9
  else 0
def pPlaces (id : Int) : List Int :=
  if id ∈ [1, 2, 3, 8, 9] then [3, 16]
  else if id = 11 then [3, 8]
  else if id = 35 then [3]
  else if id = 24 then [16]
  else if id ∈ [23, 25] then [1]
  else if id ∈ [18, 19, 26, 36, 37, 40, 41, 42] then [2]
  else if id = 28 then [2, 14]
  else if id ∈ [33, 34, 39] then [1, 2]
  else if id = 17 then [1, 2, 14]
  else if id ∈ [21, 22] then [1, 2, 15]
  else if id = 31 then [2, 4, 5, 6, 7, 9, 11, 14, 15]
  else if id = 38 then [1, 2, 3, 4, 5, 6, 7, 8, 9, 10, 11, 14, 15, 16]
  else []
def pAllowed (id place : Int) : Bool := decide (place ∈ pPlaces id)
def pNumbered (id n : Int) : Bool :=
  if id ∈ [1, 23, 25, 36, 37, 40, 41, 42] then decide (n = 0 ∨ n = 1)
  else if id ∈ [11, 33, 35, 39] then decide (0 < n)
  else true
/-- The groups of a code, as bits: 1 connack, 2 puback, 4 pubrel, 8 suback, 16 unsuback, 32 disconnect, 64 auth. -/
def rGood (c : Int) : Nat :=
  if c = 0 then 127 else if c ∈ [1, 2] then 8 else if c = 4 then 32 else if c = 16 then 2 else if c = 17 then 16 else if c ∈ [24, 25] then 64 else 0
def rGroups (c : Int) : Nat :=
  if c ∈ [128, 131, 135] then 59
  else if c ∈ [144, 153] then 35
  else if c ∈ [129, 130, 137, 140, 149, 154, 155, 156, 157, 159] then 33
  else if c ∈ [139, 141, 142, 147, 148, 150, 152, 160] then 32
  else if c = 151 then 43
  else if c ∈ [158, 161, 162] then 40
  else if c = 143 then 56
  else if c = 145 then 26
  else if c ∈ [132, 133, 134, 136, 138] then 1
  else if c = 146 then 4
  else rGood c
def rGroup (k : Int) : Nat :=
  if k = 2 then 1 else if k ∈ [4, 5] then 2 else if k ∈ [6, 7] then 4 else if k = 9 then 8 else if k = 11 then 16 else if k = 14 then 32 else if k = 15 then 64 else 0
def rAllowed (kind code : Int) : Bool := (rGroups code &&& rGroup kind) != 0
end Go.Proofs.YthokkjdolcfhcaaGreatDoor

set_option linter.unusedVariables false
namespace Go.Proofs.YthokkjdolcfhcaaGreatDoor
open Go.RowKit

theorem block_of_add (a : Addr) (n : Nat) : (a.add n).block = a.block := by unfold Addr.add; split <;> rfl
theorem add_of_add (a : Addr) (i j : Nat) : (a.add i).add j = a.add (i + j) := by
  unfold Addr.add
  by_cases hi : i = 0 <;> by_cases hj : j = 0 <;> simp [hi, hj, Nat.add_assoc]

def Reads (w : World) (B size : Nat) (A : Option Addr) (n : Nat) (xs : List Value) : Prop :=
  xs.length = n * size ∧ (0 < n → ∃ ad, A = some ad ∧ ad.block < B ∧ ∀ j u, xs[j]? = some u → w.cell? (ad.add j) = some u)

section
variable {w w' : World} {B B' size n : Nat} {A : Option Addr} {xs : List Value}
theorem Reads.none_ : Reads w B size A 0 [] := ⟨by simp, fun h => absurd h (by omega)⟩
theorem Reads.at_ {k : Nat} (h : Reads w B 1 A n xs) (hk : k < n) : ∃ ad u, A = some ad ∧ ad.block < B ∧ xs[k]? = some u ∧ w.cell? (ad.add k) = some u := by
  obtain ⟨ad, e, hb, hc⟩ := h.2 (by omega)
  have hl : k < xs.length := by have := h.1; omega
  exact ⟨ad, xs[k], e, hb, List.getElem?_eq_getElem hl, hc k _ (List.getElem?_eq_getElem hl)⟩
theorem Reads.keep (h : Reads w B size A n xs) (hk : ∀ p : Addr, p.block < B → w'.cell? p = w.cell? p) : Reads w' B size A n xs :=
  ⟨h.1, fun hn => by
    obtain ⟨ad, e, hb, hc⟩ := h.2 hn
    exact ⟨ad, e, hb, fun j u hu => (hk _ (by rw [block_of_add]; exact hb)).trans (hc j u hu)⟩⟩
theorem Reads.more (h : Reads w B size A n xs) (hB : B ≤ B') : Reads w B' size A n xs :=
  ⟨h.1, fun hn => by
    obtain ⟨ad, e, hb, hc⟩ := h.2 hn
    exact ⟨ad, e, by omega, hc⟩⟩
theorem Reads.below (h : Reads w B size A n xs) (hb : Below B w w') : Reads w' B size A n xs := h.keep fun _ hp => hb.cell hp
theorem Reads.drew (h : Reads w B size A n xs) : Reads w.drew B size A n xs := h
theorem Reads.drewN (h : Reads w B size A n xs) (k : Nat) : Reads (w.drewN k) B size A n xs := h
theorem Reads.alloc (h : Reads w B size A n xs) (hB : B ≤ w.heap.size) (o : Obj) : Reads (w.alloc o) B size A n xs := h.keep fun p hp => World.cell?_alloc_lt w o p (by omega)
theorem Reads.setCell (h : Reads w B size A n xs) {p : Addr} (hB : B ≤ p.block) (u : Value) : Reads (w.setCell p u) B size A n xs :=
  h.keep fun q hq => World.cell?_setCell_other w p q u (fun e => by subst e; omega)
theorem Reads.grown (h : Reads w B size A n xs) {row : Option Nat} (hg : w.grownBy w' row) (hB : B ≤ w.heap.size) (hr : ∀ g, row = some g → B ≤ g) : Reads w' B size A n xs :=
  h.keep fun p hp => World.cell?_of_block (hg.block p.block (by omega) (fun e => by have := hr _ e.symm; omega))
theorem Reads.cut (h : Reads w B size A n xs) {k cap : Nat} (hk : k ≤ n) (hc : n ≤ cap) :
    Reads w B size (if cap = k then A else A.map (·.add (k * size))) (n - k) (xs.drop (k * size)) := by
  refine ⟨by rw [List.length_drop, h.1, Nat.sub_mul], fun hn => ?_⟩
  obtain ⟨ad, rfl, hb, hcell⟩ := h.2 (by omega)
  rw [if_neg (by omega)]
  refine ⟨ad.add (k * size), rfl, by rw [block_of_add]; exact hb, fun j u hu => ?_⟩
  rw [add_of_add]
  exact hcell _ u (by rw [← hu, List.getElem?_drop])
theorem Reads.of_own {base : Nat} {e : TypeId} {c : Nat} (h : w.ownsRow base e size (.slice A n c) n xs) : Reads w w.heap.size size A n xs := by
  refine ⟨h.1, fun hn => ?_⟩
  obtain ⟨g, cap, hv, _, hlt⟩ := h.form hn
  have hA : A = some ⟨g, 0, none⟩ := by injection hv
  subst hA
  exact ⟨_, rfl, hlt, h.cells (g := g) rfl⟩
end

section
variable {w w' : World} {B size n : Nat} {A : Option Addr} {xs : List Value} {S : Nat → Prop}
theorem Reads.keeps (h : Reads w B size A n xs) (k : Keep S w w') (hB : B ≤ w.heap.size) (hS : ∀ ad : Addr, A = some ad → 0 < n → ¬ S ad.block) : Reads w' B size A n xs :=
  ⟨h.1, fun hn => by
    obtain ⟨ad, e, hb, hc⟩ := h.2 hn
    refine ⟨ad, e, hb, fun j u hu => ?_⟩
    rw [k.cell (p := ad.add j) (by rw [block_of_add]; omega) (by rw [block_of_add]; exact hS ad e hn)]
    exact hc j u hu⟩
theorem Reads.pure (h : Reads w B size A n xs) (k : Pure w w') (hB : B ≤ w.heap.size) : Reads w' B size A n xs := h.keeps k hB fun _ _ _ hf => hf
end

/-! ### lists of ints -/
def ints (l : List Int) : List Value := l.map (Value.int .i64)
theorem ints_length (l : List Int) : (ints l).length = l.length := by simp [ints]
theorem ints_at (l : List Int) (k : Nat) (h : k < l.length) : (ints l)[k]? = some (.int .i64 (l.getD k 0)) := by simp [ints, List.getD, h]
/-! ### lists of properties -/
def prCells (p : Pr) : List Value := [.int .i64 p.id, .int .i64 p.n, .string p.s, .string p.v]
def prRow (l : List Pr) : List Value := l.flatMap prCells
theorem prRow_length (l : List Pr) : (prRow l).length = l.length * 4 := by
  induction l with
  | nil => rfl
  | cons p l ih => simp only [prRow, List.flatMap_cons, List.length_append] at ih ⊢; rw [ih]; simp [prCells]; omega
theorem prRow_append (a b : List Pr) : prRow (a ++ b) = prRow a ++ prRow b := by simp [prRow]
theorem prRow_at (l : List Pr) (k j : Nat) (hk : k < l.length) (hj : j < 4) : (prRow l)[k * 4 + j]? = (prCells l[k])[j]? := by
  induction l generalizing k with
  | nil => simp at hk
  | cons p l ih =>
    simp only [prRow, List.flatMap_cons] at ih ⊢
    cases k with
    | zero =>
      rw [List.getElem?_append_left (by simp [prCells]; omega)]
      simp
    | succ k =>
      rw [List.getElem?_append_right (by simp [prCells]; omega)]
      have h := ih k (by simpa using hk)
      have e : (k + 1) * 4 + j - (prCells p).length = k * 4 + j := by simp [prCells]; omega
      rw [e, h]
      simp
end Go.Proofs.YthokkjdolcfhcaaGreatDoor

set_option linter.unusedVariables false
namespace Go.Proofs.YthokkjdolcfhcaaGreatDoor
open Go.RowKit
theorem own_shape {w : World} {base e size n : Nat} {v : Value} {xs : List Value} (h : w.ownsRow base e size v n xs) : ∃ A c, v = .slice A n c := by
  rcases h.2 with ⟨rfl, rfl⟩ | ⟨g, cap, cur, rfl, _⟩
  · exact ⟨none, 0, rfl⟩
  · exact ⟨_, cap, rfl⟩
theorem own_low {w : World} {base base' e size n : Nat} {v : Value} {xs : List Value} (h : w.ownsRow base e size v n xs) (hb : base' ≤ base) : w.ownsRow base' e size v n xs := by
  refine ⟨h.1, ?_⟩
  rcases h.2 with h | ⟨g, cap, cur, hv, hg, r⟩
  · exact .inl h
  · exact .inr ⟨g, cap, cur, hv, by omega, r⟩
theorem own_ge {w : World} {base e size n : Nat} {v : Value} {xs : List Value} (h : w.ownsRow base e size v n xs) (k : Nat) (hk : v.ownBlock = some k) : base ≤ k := by
  rcases h.2 with ⟨rfl, _⟩ | ⟨g, cap, cur, rfl, hb, _⟩
  · simp [Value.ownBlock] at hk
  · have : g = k := by simpa [Value.ownBlock] using hk
    omega
theorem Blk.ne_own {w : World} {g base size n : Nat} {t e : TypeId} {cs : Array Value} {v : Value} {xs : List Value} (hb : Blk w g t cs) (ho : w.ownsRow base e size v n xs) (ht : t ≠ e) : ∀ k, v.ownBlock = some k → ¬ k = g := by
  rintro k hk rfl
  rcases ho.2 with ⟨rfl, _⟩ | ⟨g', cap, cur, rfl, hbg', hh, r⟩
  · simp [Value.ownBlock] at hk
  · have : g' = k := by simpa [Value.ownBlock] using hk
    subst this
    unfold Blk at hb
    rw [hb] at hh
    injection hh with hh
    injection hh with _ h2
    exact ht h2
end Go.Proofs.YthokkjdolcfhcaaGreatDoor

namespace Go.Proofs.YthokkjdolcfhcaaGreatDoor
/-- A writer: its bytes, its first error. -/
structure WS where
  all : ByteArray
  e : Option Flt

/-- the bytes of a number, the last one lowest -/
def beL : Nat → Nat → List UInt8
  | 0, _ => []
  | k + 1, n => beL k (n / 256) ++ [UInt8.ofNat n]
def beS (k n : Nat) : ByteArray := ⟨(beL k n).toArray⟩
/-- a variable byte integer's bytes -/
def vputL : Nat → Nat → List UInt8
  | 0, _ => []
  | k + 1, n => if n < 128 then [UInt8.ofNat n] else UInt8.ofNat (n % 128 + 128) :: vputL k (n / 128)
def vput (n : Int) : Option ByteArray := if n < 0 ∨ 268435455 < n then none else some ⟨(vputL 4 n.toNat).toArray⟩

def WS.fail (ws : WS) (f : Flt) : WS := ⟨ws.all, some f⟩
def WS.add (ws : WS) (s : ByteArray) : WS := ⟨ws.all ++ s, ws.e⟩
def WS.num (ws : WS) (k : Nat) (n : Int) : WS :=
  match ws.e with
  | some _ => ws
  | none => if n < 0 ∨ 256 ^ k ≤ n then ws.fail ⟨4, 129, ws.all.size⟩ else ws.add (beS k n.toNat)
def WS.raw (ws : WS) (s : ByteArray) : WS :=
  match ws.e with
  | some _ => ws
  | none => ws.add s
def WS.bin (ws : WS) (s : ByteArray) : WS := (ws.num 2 s.size).raw s
def WS.var (ws : WS) (n : Int) : WS :=
  match ws.e with
  | some _ => ws
  | none =>
    match vput n with
    | none => ws.fail (deeperS ⟨4, 129, 0⟩ ws.all.size)
    | some s => ws.add s
def WS.text (ws : WS) (s : ByteArray) : WS :=
  match ws.e with
  | some _ => ws
  | none =>
    match uCheck s with
    | some f => ws.fail (deeperS f (ws.all.size + 2))
    | none => ws.bin s
def WS.bytes (ws : WS) : Except Flt ByteArray :=
  match ws.e with
  | some f => .error f
  | none => .ok ws.all

theorem beL_length : ∀ (k n : Nat), (beL k n).length = k
  | 0, _ => rfl
  | k + 1, n => by simp [beL, beL_length k]
theorem beS_size (k n : Nat) : (beS k n).size = k := by
  show (beL k n).toArray.size = k
  simp [beL_length]
theorem vputL_length : ∀ (k n : Nat), (vputL k n).length ≤ k
  | 0, _ => Nat.le_refl _
  | k + 1, n => by
    unfold vputL
    split
    · simp
    · have := vputL_length k (n / 128)
      simp only [List.length_cons]
      omega
theorem vput_size {n : Int} {s : ByteArray} (h : vput n = some s) : s.size ≤ 4 := by
  unfold vput at h
  split at h
  · cases h
  · injection h with h
    subst h
    have := vputL_length 4 n.toNat
    show (vputL 4 n.toNat).toArray.size ≤ 4
    simpa using this
theorem WS.num_size (ws : WS) (k : Nat) (n : Int) : (ws.num k n).all.size ≤ ws.all.size + k := by
  unfold WS.num
  split
  · omega
  · split
    · simp [WS.fail]
    · simp [WS.add, beS_size]
theorem WS.raw_size (ws : WS) (s : ByteArray) : (ws.raw s).all.size ≤ ws.all.size + s.size := by
  unfold WS.raw
  split
  · omega
  · simp [WS.add]
theorem WS.bin_size (ws : WS) (s : ByteArray) : (ws.bin s).all.size ≤ ws.all.size + 2 + s.size := by
  have h1 := WS.raw_size (ws.num 2 s.size) s
  have h2 := WS.num_size ws 2 s.size
  unfold WS.bin
  omega
theorem WS.var_size (ws : WS) (n : Int) : (ws.var n).all.size ≤ ws.all.size + 4 := by
  unfold WS.var
  split
  · omega
  · split
    · simp [WS.fail]
    · rename_i h
      have := vput_size h
      simp [WS.add]
      omega
theorem WS.text_size (ws : WS) (s : ByteArray) : (ws.text s).all.size ≤ ws.all.size + 2 + s.size := by
  unfold WS.text
  split
  · omega
  · split
    · simp [WS.fail]; omega
    · exact WS.bin_size ws s
theorem strCells_append (a b : ByteArray) : Lib.strCells (a ++ b) = Lib.strCells a ++ Lib.strCells b := by
  simp [Lib.strCells]
end Go.Proofs.YthokkjdolcfhcaaGreatDoor

namespace Go.Proofs.YthokkjdolcfhcaaGreatDoor
/-- the digits, each marked as one that others follow -/
def vputH : Nat → Nat → List UInt8
  | 0, _ => []
  | k + 1, n => UInt8.ofNat (n % 128 + 128) :: vputH k (n / 128)
/-- the mark of the last one away -/
def unmark (l : List UInt8) : List UInt8 := l.dropLast ++ (l.getLast?.toList.map fun c => UInt8.ofNat (c.toNat % 128))
theorem vputH_length : ∀ (k n : Nat), (vputH k n).length = k
  | 0, _ => rfl
  | k + 1, n => by simp [vputH, vputH_length k]
theorem vputL_pos : ∀ (k n : Nat), 0 < k → 0 < (vputL k n).length
  | 0, _, h => absurd h (by omega)
  | k + 1, n, _ => by unfold vputL; split <;> simp
theorem vputL_H : ∀ (k n : Nat), n < 128 ^ k → unmark (vputH (vputL k n).length n) = vputL k n
  | 0, n, h => by simp [vputL, vputH, unmark]
  | k + 1, n, h => by
    unfold vputL
    split
    · rename_i h1
      simp [vputH, unmark]
      rw [Nat.mod_eq_of_lt h1]
    · rename_i h1
      have ih := vputL_H k (n / 128) (by rw [Nat.pow_succ] at h; omega)
      have hk : 0 < k := by
        rcases Nat.eq_zero_or_pos k with rfl | h2
        · simp at h; omega
        · exact h2
      have hp := vputL_pos k (n / 128) hk
      simp only [List.length_cons, vputH]
      generalize hl : (vputL k (n / 128)).length = m at *
      have hm : (vputH m (n / 128)) ≠ [] := by
        intro h0
        have := vputH_length m (n / 128)
        rw [h0] at this
        simp at this
        omega
      rw [← ih]
      unfold unmark
      rw [List.dropLast_cons_of_ne_nil hm, List.getLast?_cons]
      cases hg : (vputH m (n / 128)).getLast? with
      | none => exact absurd (List.getLast?_eq_none_iff.1 hg) hm
      | some x => simp
end Go.Proofs.YthokkjdolcfhcaaGreatDoor

set_option linter.unusedVariables false
namespace Go.Proofs.YthokkjdolcfhcaaGreatDoor

/-- the bytes of a letter's number -/
def rBytes (n : Int) : List UInt8 :=
  if n < 1 ∨ 1114111 < n ∨ (55296 ≤ n ∧ n ≤ 57343) then []
  else if n < 128 then [UInt8.ofNat n.toNat]
  else if n < 2048 then [UInt8.ofNat (192 + n.toNat / 64), UInt8.ofNat (128 + n.toNat % 64)]
  else if n < 65536 then [UInt8.ofNat (224 + n.toNat / 4096), UInt8.ofNat (128 + n.toNat / 64 % 64), UInt8.ofNat (128 + n.toNat % 64)]
  else [UInt8.ofNat (240 + n.toNat / 262144), UInt8.ofNat (128 + n.toNat / 4096 % 64), UInt8.ofNat (128 + n.toNat / 64 % 64), UInt8.ofNat (128 + n.toNat % 64)]
def rb (l : List UInt8) (k : Nat) : Int := ((l.getD k 0).toNat : Int)
/-- the number of which so many bytes would be the letter's -/
def rNumber (l : List UInt8) : Nat → Int
  | 1 => rb l 0
  | 2 => 64 * (rb l 0 - 192) + rb l 1 - 128
  | 3 => 64 * (64 * (rb l 0 - 224) + rb l 1 - 128) + rb l 2 - 128
  | 4 => 64 * (64 * (64 * (rb l 0 - 240) + rb l 1 - 128) + rb l 2 - 128) + rb l 3 - 128
  | _ => 0
/-- is it the letter's? -/
def rIs (l : List UInt8) (k : Nat) : Prop := k ≤ l.length ∧ rBytes (rNumber l k) ≠ [] ∧ rBytes (rNumber l k) = l.take k
instance (l : List UInt8) (k : Nat) : Decidable (rIs l k) := by unfold rIs; exact inferInstance
def rFirst (l : List UInt8) : Nat := if rIs l 1 then 1 else if rIs l 2 then 2 else if rIs l 3 then 3 else if rIs l 4 then 4 else 0

theorem u8_of {a : Nat} {c : UInt8} (h : a = c.toNat) : UInt8.ofNat a = c := by subst h; simp
theorem u8_to {a : Nat} {c : UInt8} (h : UInt8.ofNat a = c) (ha : a < 256) : a = c.toNat := by subst h; simp; omega

theorem ofNat_iff {a : Nat} {c : UInt8} (ha : a < 256) : UInt8.ofNat a = c ↔ a = c.toNat := ⟨fun h => u8_to h ha, u8_of⟩

theorem rIs_1 (c : UInt8) (l : List UInt8) : rIs (c :: l) 1 ↔ 1 ≤ c.toNat ∧ c.toNat < 128 := by
  have hc : c.toNat < 256 := UInt8.toNat_lt c
  unfold rIs rNumber rb
  simp only [List.length_cons, List.getD_cons_zero, List.take_succ_cons, List.take_zero]
  generalize hn : (c.toNat : Int) = n
  unfold rBytes
  constructor
  · rintro ⟨h1, h2, h3⟩
    split at h2
    · exact absurd rfl h2
    · rename_i ha
      rw [if_neg ha] at h3
      clear h2
      repeat' split at h3
      all_goals first | (simp at h3; done) | omega
  · rintro ⟨h1, h2⟩
    rw [if_neg (by omega), if_pos (by omega)]
    exact ⟨by omega, by simp, by rw [u8_of (show n.toNat = c.toNat by omega)]⟩

theorem rIs_2 (c d : UInt8) (l : List UInt8) : rIs (c :: d :: l) 2 ↔ 194 ≤ c.toNat ∧ c.toNat < 224 ∧ d.toNat / 64 = 2 := by
  have hc : c.toNat < 256 := UInt8.toNat_lt c
  have hd : d.toNat < 256 := UInt8.toNat_lt d
  unfold rIs rNumber rb
  simp only [List.length_cons, List.getD_cons_zero, List.getD_cons_succ, List.take_succ_cons, List.take_zero]
  generalize hn : 64 * ((c.toNat : Int) - 192) + (d.toNat : Int) - 128 = n
  unfold rBytes
  constructor
  · rintro ⟨h1, h2, h3⟩
    split at h2
    · exact absurd rfl h2
    · rename_i ha
      rw [if_neg ha] at h3
      clear h2
      repeat' split at h3
      all_goals first | (simp at h3; done) | skip
      rename_i hb1 hb2
      injection h3 with e1 h3
      injection h3 with e2 h3
      rw [ofNat_iff (by omega)] at e1 e2
      omega
  · rintro ⟨h1, h2, h3⟩
    rw [if_neg (by omega), if_neg (by omega), if_pos (by omega)]
    exact ⟨by omega, by simp, by rw [u8_of (show 192 + n.toNat / 64 = c.toNat by omega), u8_of (show 128 + n.toNat % 64 = d.toNat by omega)]⟩

theorem rIs_3 (c d e : UInt8) (l : List UInt8) : rIs (c :: d :: e :: l) 3 ↔ 224 ≤ c.toNat ∧ c.toNat < 240 ∧ d.toNat / 64 = 2 ∧ e.toNat / 64 = 2 ∧ ¬ uBad ((c.toNat % 16 * 64 + d.toNat % 64) * 64 + e.toNat % 64) 2048 := by
  have hc : c.toNat < 256 := UInt8.toNat_lt c
  have hd : d.toNat < 256 := UInt8.toNat_lt d
  have he : e.toNat < 256 := UInt8.toNat_lt e
  unfold rIs rNumber rb uBad
  simp only [List.length_cons, List.getD_cons_zero, List.getD_cons_succ, List.take_succ_cons, List.take_zero]
  generalize hn : 64 * (64 * ((c.toNat : Int) - 224) + (d.toNat : Int) - 128) + (e.toNat : Int) - 128 = n
  unfold rBytes
  constructor
  · rintro ⟨h1, h2, h3⟩
    split at h2
    · exact absurd rfl h2
    · rename_i ha
      rw [if_neg ha] at h3
      clear h2
      repeat' split at h3
      all_goals first | (simp at h3; done) | skip
      rename_i hb1 hb2 hb3
      injection h3 with e1 h3
      injection h3 with e2 h3
      injection h3 with e3 h3
      rw [ofNat_iff (by omega)] at e1 e2 e3
      omega
  · rintro ⟨h1, h2, h3, h4, h5⟩
    rw [if_neg (by omega), if_neg (by omega), if_neg (by omega), if_pos (by omega)]
    exact ⟨by omega, by simp, by rw [u8_of (show 224 + n.toNat / 4096 = c.toNat by omega), u8_of (show 128 + n.toNat / 64 % 64 = d.toNat by omega), u8_of (show 128 + n.toNat % 64 = e.toNat by omega)]⟩

theorem rIs_4 (c d e f : UInt8) (l : List UInt8) : rIs (c :: d :: e :: f :: l) 4 ↔ 240 ≤ c.toNat ∧ c.toNat < 248 ∧ d.toNat / 64 = 2 ∧ e.toNat / 64 = 2 ∧ f.toNat / 64 = 2 ∧ ¬ uBad (((c.toNat % 8 * 64 + d.toNat % 64) * 64 + e.toNat % 64) * 64 + f.toNat % 64) 65536 := by
  have hc : c.toNat < 256 := UInt8.toNat_lt c
  have hd : d.toNat < 256 := UInt8.toNat_lt d
  have he : e.toNat < 256 := UInt8.toNat_lt e
  have hf : f.toNat < 256 := UInt8.toNat_lt f
  unfold rIs rNumber rb uBad
  simp only [List.length_cons, List.getD_cons_zero, List.getD_cons_succ, List.take_succ_cons, List.take_zero]
  generalize hn : 64 * (64 * (64 * ((c.toNat : Int) - 240) + (d.toNat : Int) - 128) + (e.toNat : Int) - 128) + (f.toNat : Int) - 128 = n
  unfold rBytes
  constructor
  · rintro ⟨h1, h2, h3⟩
    split at h2
    · exact absurd rfl h2
    · rename_i ha
      rw [if_neg ha] at h3
      clear h2
      repeat' split at h3
      all_goals first | (simp at h3; done) | skip
      rename_i hb1 hb2 hb3
      injection h3 with e1 h3
      injection h3 with e2 h3
      injection h3 with e3 h3
      injection h3 with e4 h3
      rw [ofNat_iff (by omega)] at e1 e2 e3 e4
      omega
  · rintro ⟨h1, h2, h3, h4, h5, h6⟩
    rw [if_neg (by omega), if_neg (by omega), if_neg (by omega), if_neg (by omega)]
    exact ⟨by omega, by simp, by rw [u8_of (show 240 + n.toNat / 262144 = c.toNat by omega), u8_of (show 128 + n.toNat / 4096 % 64 = d.toNat by omega), u8_of (show 128 + n.toNat / 64 % 64 = e.toNat by omega), u8_of (show 128 + n.toNat % 64 = f.toNat by omega)]⟩
theorem rIs_short {l : List UInt8} {k : Nat} (h : l.length < k) : ¬ rIs l k := fun hr => by have := hr.1; omega

theorem rIs_2c {c : UInt8} {l : List UInt8} (h : rIs (c :: l) 2) : 194 ≤ c.toNat ∧ c.toNat < 224 := by
  match l, h with
  | [], h => exact absurd h (rIs_short (by simp))
  | d :: l, h => have := (rIs_2 c d l).1 h; omega
theorem rIs_3c {c : UInt8} {l : List UInt8} (h : rIs (c :: l) 3) : 224 ≤ c.toNat ∧ c.toNat < 240 := by
  match l, h with
  | [], h => exact absurd h (rIs_short (by simp))
  | [d], h => exact absurd h (rIs_short (by simp))
  | d :: e :: l, h => have := (rIs_3 c d e l).1 h; exact ⟨this.1, this.2.1⟩
theorem rIs_4c {c : UInt8} {l : List UInt8} (h : rIs (c :: l) 4) : 240 ≤ c.toNat ∧ c.toNat < 248 := by
  match l, h with
  | [], h => exact absurd h (rIs_short (by simp))
  | [d], h => exact absurd h (rIs_short (by simp))
  | [d, e], h => exact absurd h (rIs_short (by simp))
  | d :: e :: f :: l, h => have := (rIs_4 c d e f l).1 h; exact ⟨this.1, this.2.1⟩

theorem rFirst_eq (l : List UInt8) : rFirst l = uFirst l := by
  match l with
  | [] =>
    unfold rFirst
    rw [if_neg (rIs_short (by simp)), if_neg (rIs_short (by simp)), if_neg (rIs_short (by simp)), if_neg (rIs_short (by simp))]
    rfl
  | c :: l =>
    have hc : c.toNat < 256 := UInt8.toNat_lt c
    unfold rFirst
    simp only [uFirst]
    by_cases h1 : 1 ≤ c.toNat ∧ c.toNat < 128
    · have hs : uShape c.toNat = (0, c.toNat, 1) := by unfold uShape; rw [if_pos h1]
      rw [if_pos ((rIs_1 c l).2 h1), hs]
      simp only [List.take_zero, uMore]
      rw [if_neg (by omega), if_neg (by unfold uBad; omega)]
    rw [if_neg (fun h => h1 ((rIs_1 c l).1 h))]
    by_cases h2 : 192 ≤ c.toNat ∧ c.toNat < 224
    · have hs : uShape c.toNat = (1, c.toNat % 32, 128) := by unfold uShape; rw [if_neg h1, if_pos h2]
      rw [hs, if_neg (show ¬ rIs (c :: l) 3 from fun h => by have := rIs_3c h; omega), if_neg (show ¬ rIs (c :: l) 4 from fun h => by have := rIs_4c h; omega)]
      match l with
      | [] => rw [if_neg (rIs_short (by simp))]; simp
      | d :: l =>
        have hd : d.toNat < 256 := UInt8.toNat_lt d
        have h := rIs_2 c d l
        simp only [List.length_cons, List.take_succ_cons, List.take_zero, uMore]
        rw [if_neg (show ¬ (l.length + 1 < 1) by omega)]
        by_cases hd2 : d.toNat / 64 = 2
        · rw [if_pos hd2]
          by_cases h194 : 194 ≤ c.toNat
          · rw [if_pos (h.2 ⟨h194, by omega, hd2⟩)]
            simp only
            rw [if_neg (by unfold uBad; omega)]
          · rw [if_neg (fun hh => by have := h.1 hh; omega)]
            simp only
            rw [if_pos (by unfold uBad; omega)]
        · rw [if_neg hd2, if_neg (fun hh => hd2 (h.1 hh).2.2)]
    rw [if_neg (fun h => by have := rIs_2c h; omega)]
    by_cases h3 : 224 ≤ c.toNat ∧ c.toNat < 240
    · have hs : uShape c.toNat = (2, c.toNat % 16, 2048) := by unfold uShape; rw [if_neg h1, if_neg h2, if_pos h3]
      rw [hs, if_neg (show ¬ rIs (c :: l) 4 from fun h => by have := rIs_4c h; omega)]
      match l with
      | [] => rw [if_neg (rIs_short (by simp))]; simp
      | [d] => rw [if_neg (rIs_short (by simp))]; simp
      | d :: e :: l =>
        have h := rIs_3 c d e l
        simp only [List.length_cons, List.take_succ_cons, List.take_zero, uMore]
        rw [if_neg (show ¬ (l.length + 1 + 1 < 2) by omega)]
        by_cases hd2 : d.toNat / 64 = 2
        · rw [if_pos hd2]
          by_cases he2 : e.toNat / 64 = 2
          · rw [if_pos he2]
            simp only
            by_cases hb : uBad ((c.toNat % 16 * 64 + d.toNat % 64) * 64 + e.toNat % 64) 2048
            · rw [if_pos hb, if_neg (fun hh => (h.1 hh).2.2.2.2 hb)]
            · rw [if_neg hb, if_pos (h.2 ⟨h3.1, h3.2, hd2, he2, hb⟩)]
          · rw [if_neg he2, if_neg (fun hh => he2 (h.1 hh).2.2.2.1)]
        · rw [if_neg hd2, if_neg (fun hh => hd2 (h.1 hh).2.2.1)]
    rw [if_neg (fun h => by have := rIs_3c h; omega)]
    by_cases h4 : 240 ≤ c.toNat ∧ c.toNat < 248
    · have hs : uShape c.toNat = (3, c.toNat % 8, 65536) := by unfold uShape; rw [if_neg h1, if_neg h2, if_neg h3, if_pos h4]
      rw [hs]
      match l with
      | [] => rw [if_neg (rIs_short (by simp))]; simp
      | [d] => rw [if_neg (rIs_short (by simp))]; simp
      | [d, e] => rw [if_neg (rIs_short (by simp))]; simp
      | d :: e :: f :: l =>
        have h := rIs_4 c d e f l
        simp only [List.length_cons, List.take_succ_cons, List.take_zero, uMore]
        rw [if_neg (show ¬ (l.length + 1 + 1 + 1 < 3) by omega)]
        by_cases hd2 : d.toNat / 64 = 2
        · rw [if_pos hd2]
          by_cases he2 : e.toNat / 64 = 2
          · rw [if_pos he2]
            by_cases hf2 : f.toNat / 64 = 2
            · rw [if_pos hf2]
              simp only
              by_cases hb : uBad (((c.toNat % 8 * 64 + d.toNat % 64) * 64 + e.toNat % 64) * 64 + f.toNat % 64) 65536
              · rw [if_pos hb, if_neg (fun hh => (h.1 hh).2.2.2.2.2 hb)]
              · rw [if_neg hb, if_pos (h.2 ⟨h4.1, h4.2, hd2, he2, hf2, hb⟩)]
            · rw [if_neg hf2, if_neg (fun hh => hf2 (h.1 hh).2.2.2.2.1)]
          · rw [if_neg he2, if_neg (fun hh => he2 (h.1 hh).2.2.2.1)]
        · rw [if_neg hd2, if_neg (fun hh => hd2 (h.1 hh).2.2.1)]
    rw [if_neg (fun h => by have := rIs_4c h; omega)]
    have hs : uShape c.toNat = (0, 0, 1) := by unfold uShape; rw [if_neg h1, if_neg h2, if_neg h3, if_neg h4]
    rw [hs]
    simp [uMore, uBad]
end Go.Proofs.YthokkjdolcfhcaaGreatDoor

namespace Go.Proofs.YthokkjdolcfhcaaGreatDoor
/-- an error's number and its place; of none: zeros -/
def fk : Option Flt → Nat
  | none => 0
  | some f => f.k
def fa : Option Flt → Int
  | none => 0
  | some f => f.a
/-- A reader's error has one reason, a kind, and a place that is near. -/
def OkF (f : Flt) : Prop := f.r = 129 ∧ 1 ≤ f.k ∧ f.k ≤ 7 ∧ 0 ≤ f.a ∧ f.a ≤ 140737488421888
def RS.OkE (st : RS) : Prop := ∀ f, st.e = some f → OkF f

theorem vtk_err : ∀ (l : List UInt8) (k n : Nat) (f : Flt), vtk l k n = .error f → f.r = 129 ∧ 1 ≤ f.k ∧ f.k ≤ 7 ∧ 0 ≤ f.a ∧ f.a ≤ 4
  | [], k, n, f, h => by
    unfold vtk at h
    split at h
    · cases h; simp
    · cases h; simp; omega
  | c :: l, k, n, f, h => by
    unfold vtk at h
    split at h
    · cases h; simp
    · split at h
      · exact vtk_err l _ _ f h
      · split at h
        · cases h; simp; omega
        · cases h
theorem uCheck_err {s : ByteArray} {f : Flt} (h : uCheck s = some f) : f.r = 129 ∧ 1 ≤ f.k ∧ f.k ≤ 7 ∧ 0 ≤ f.a ∧ f.a ≤ 65535 := by
  unfold uCheck at h
  split at h
  · cases h; simp
  · split at h
    · cases h
      simp
      omega
    · cases h
theorem deeper_near {f : Flt} {n : Nat} (h1 : f.r = 129) (h2 : 1 ≤ f.k ∧ f.k ≤ 7) (h3 : 0 ≤ f.a) (h4 : f.a ≤ 65535) (hn : n ≤ 140737488351234) : OkF (deeperS f n) ∧ (deeperS f n).a = f.a + n := by
  have h := furtherS_small (a := f.a) (b := n) h3 (by omega) (by omega)
  refine ⟨⟨h1, h2.1, h2.2, ?_, ?_⟩, h⟩
  · show 0 ≤ furtherS f.a n; rw [h]; omega
  · show furtherS f.a n ≤ _; rw [h]; omega
theorem RS.raw_e {st : RS} (h : st.OkE) (ho : st.Ok) (n : Int) : (st.raw n).2.OkE := by
  have h1 := ho.1
  have h2 := ho.2
  unfold RS.raw
  cases he : st.e with
  | some f => exact h
  | none =>
    simp only
    split
    · intro f hf
      simp only [RS.fail, Option.some.injEq] at hf
      subst hf
      exact ⟨rfl, by simp, by simp, by simp, by simp only; omega⟩
    · split
      · intro f hf
        simp only [RS.fail, Option.some.injEq] at hf
        subst hf
        exact ⟨rfl, by simp, by simp, by simp, by simp only; omega⟩
      · intro f hf; simp at hf
theorem RS.num_e {st : RS} (h : st.OkE) (ho : st.Ok) (n : Nat) : (st.num n).2.OkE := RS.raw_e h ho n
theorem RS.back_e' {st : RS} (h : st.OkE) (a : Nat) : (st.back a).OkE := by
  unfold RS.back
  split
  · exact h
  · exact h
theorem RS.bin_e {st : RS} (h : st.OkE) (ho : st.Ok) : st.bin.2.OkE :=
  RS.back_e' (RS.raw_e (RS.num_e h ho 2) (RS.num_ok ho 2) _) _
theorem RS.var_e {st : RS} (h : st.OkE) (ho : st.Ok) : st.var.2.OkE := by
  have h1 := ho.1
  have h2 := ho.2
  unfold RS.var
  cases he : st.e with
  | some f => exact h
  | none =>
    simp only
    cases hv : vtake (st.s.extract st.at_ st.s.size) with
    | error f =>
      intro f' hf
      simp only [Option.some.injEq] at hf
      subst hf
      obtain ⟨e1, e2, e3, e4, e5⟩ := vtk_err _ _ _ _ hv
      exact (deeper_near e1 ⟨e2, e3⟩ e4 (by omega) (by omega)).1
    | ok x => intro f hf; simp at hf
theorem RS.text_e {st : RS} (h : st.OkE) (ho : st.Ok) : st.text.2.OkE := by
  have h1 := ho.1
  have h2 := ho.2
  unfold RS.text
  cases he : st.bin.2.e with
  | some f => exact RS.bin_e h ho
  | none =>
    simp only
    cases hu : uCheck st.bin.1 with
    | some f =>
      intro f' hf
      simp only [Option.some.injEq] at hf
      subst hf
      obtain ⟨e1, e2, e3, e4, e5⟩ := uCheck_err hu
      have h := (deeper_near (n := st.at_ + 2) e1 ⟨e2, e3⟩ e4 (by omega) (by omega)).1
      simpa using h
    | none => intro f hf; rw [he] at hf; cases hf
end Go.Proofs.YthokkjdolcfhcaaGreatDoor

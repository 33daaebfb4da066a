/- The walks of the program's boxes: New, Of, Left, Put; what a box is in memory. -/
import Derived.Test.YtdomngcedflapaaPChunkx2
import Derived.Test.YtdomngcedflapaaShelf
import Derived.StillTailTactics
import Derived.BigQuiet
namespace Go.Proofs.YtdomngcedflapaaW.Box
open Go.RowKit Go.Proofs.Ytdomngcedflapaa Go.Proofs.YtdomngcedflapaaW.PrintWords Go.Proofs.YtdomngcedflapaaW.PrintLast Go.Proofs.YtdomngcedflapaaW.PrintMore

/-- A box in memory: the struct in block a, its texts in block p, its marks in block h. -/
structure BoxAt (w : World) (a p h : Nat) (P : List ByteArray) (H : List Bool) (left bytes : Int) : Prop where
  box : w.heap[a]? = some (.cells #[.slice (some ⟨p, 0, none⟩) P.length P.length, .slice (some ⟨h, 0, none⟩) P.length P.length, .int .i64 left, .int .i64 bytes] 78 (0, 0))
  parts : w.heap[p]? = some (.cells (P.map Value.string).toArray 9 (0, 0))
  has : w.heap[h]? = some (.cells (H.map Value.bool).toArray 4 (0, 0))
  len : H.length = P.length
  ap : a ≠ p
  ah : a ≠ h
  ph : p ≠ h

/-- Only these blocks may have turned. -/
structure Only (S : Nat → Prop) (w w' : World) : Prop where
  os : w'.os = w.os
  tape : w'.tape = w.tape
  output : w'.output = w.output
  size : w.heap.size ≤ w'.heap.size
  block : ∀ k, k < w.heap.size → ¬ S k → w'.heap[k]? = w.heap[k]?

theorem Only.below {S : Nat → Prop} {w w' : World} (h : Only S w w') {B : Nat} (hB : B ≤ w.heap.size) (hS : ∀ k, S k → B ≤ k) : Below B w w' :=
  ⟨h.os, h.tape, h.output, h.size, fun k hk => h.block k (by omega) (fun hs => by have := hS k hs; omega)⟩

theorem Only.of_below {S : Nat → Prop} {w w' : World} (h : Below w.heap.size w w') : Only S w w' :=
  ⟨h.os, h.tape, h.output, h.size, fun k hk _ => h.block k hk⟩

theorem Only.trans {S : Nat → Prop} {a b c : World} (h : Only S a b) (k : Only S b c) : Only S a c :=
  ⟨k.os.trans h.os, k.tape.trans h.tape, k.output.trans h.output, Nat.le_trans h.size k.size, fun i hi hs => (k.block i (by have := h.size; omega) hs).trans (h.block i hi hs)⟩

theorem Only.setCell {S : Nat → Prop} {w0 w : World} (h : Only S w0 w) {p : Addr} (hp : S p.block ∨ w0.heap.size ≤ p.block) (u : Value) : Only S w0 (w.setCell p u) :=
  ⟨h.os, h.tape, h.output, by have := h.size; simp [World.setCell]; exact this, fun k hk hs => (Below.heap_setCell w p u k (fun e => by rcases hp with hp | hp; exact hs (e ▸ hp); omega)).trans (h.block k hk hs)⟩

theorem Only.drew {S : Nat → Prop} {w0 w : World} (h : Only S w0 w) : Only S w0 w.drew := ⟨h.os, h.tape, h.output, h.size, h.block⟩

theorem heap_lt {w : World} {k : Nat} {o : Obj} (h : w.heap[k]? = some o) : k < w.heap.size := (Array.getElem?_eq_some_iff.1 h).1

theorem BoxAt.move {w w' : World} {a p h : Nat} {P : List ByteArray} {H : List Bool} {left bytes : Int} (b : BoxAt w a p h P H left bytes)
    (ea : w'.heap[a]? = w.heap[a]?) (ep : w'.heap[p]? = w.heap[p]?) (eh : w'.heap[h]? = w.heap[h]?) : BoxAt w' a p h P H left bytes :=
  ⟨ea.trans b.box, ep.trans b.parts, eh.trans b.has, b.len, b.ap, b.ah, b.ph⟩

theorem BoxAt.below {w w' : World} {a p h : Nat} {P : List ByteArray} {H : List Bool} {left bytes : Int} (b : BoxAt w a p h P H left bytes) (hb : Below w.heap.size w w') : BoxAt w' a p h P H left bytes :=
  b.move (hb.block _ (heap_lt b.box)) (hb.block _ (heap_lt b.parts)) (hb.block _ (heap_lt b.has))

theorem BoxAt.only {w w' : World} {a p h : Nat} {P : List ByteArray} {H : List Bool} {left bytes : Int} (b : BoxAt w a p h P H left bytes) {S : Nat → Prop} (hb : Only S w w') (ha : ¬ S a) (hp : ¬ S p) (hh : ¬ S h) : BoxAt w' a p h P H left bytes :=
  b.move (hb.block _ (heap_lt b.box) ha) (hb.block _ (heap_lt b.parts) hp) (hb.block _ (heap_lt b.has) hh)

section
variable {w : World} {a p h : Nat} {P : List ByteArray} {H : List Bool} {left bytes : Int}
theorem BoxAt.c0 (b : BoxAt w a p h P H left bytes) : w.cell? ⟨a, 0, none⟩ = some (.slice (some ⟨p, 0, none⟩) P.length P.length) := by rw [Lib.cell_of_heap b.box]; rfl
theorem BoxAt.c1 (b : BoxAt w a p h P H left bytes) : w.cell? ⟨a, 1, none⟩ = some (.slice (some ⟨h, 0, none⟩) P.length P.length) := by rw [Lib.cell_of_heap b.box]; rfl
theorem BoxAt.c2 (b : BoxAt w a p h P H left bytes) : w.cell? ⟨a, 2, none⟩ = some (.int .i64 left) := by rw [Lib.cell_of_heap b.box]; rfl
theorem BoxAt.c3 (b : BoxAt w a p h P H left bytes) : w.cell? ⟨a, 3, none⟩ = some (.int .i64 bytes) := by rw [Lib.cell_of_heap b.box]; rfl
theorem BoxAt.f (b : BoxAt w a p h P H left bytes) (i : Nat) : w.frozen? ⟨a, i, none⟩ = false := Lib.frozen_of_heap b.box i
theorem BoxAt.fp (b : BoxAt w a p h P H left bytes) (i : Nat) : w.frozen? ⟨p, i, none⟩ = false := Lib.frozen_of_heap b.parts i
theorem BoxAt.fh (b : BoxAt w a p h P H left bytes) (i : Nat) : w.frozen? ⟨h, i, none⟩ = false := Lib.frozen_of_heap b.has i
theorem BoxAt.cp (b : BoxAt w a p h P H left bytes) (i : Nat) (hi : i < P.length) : w.cell? ⟨p, i, none⟩ = some (.string (P.getD i ByteArray.empty)) := by
  rw [Lib.cell_of_heap b.parts]
  simp [List.getD, hi]
theorem BoxAt.ch (b : BoxAt w a p h P H left bytes) (i : Nat) (hi : i < P.length) : w.cell? ⟨h, i, none⟩ = some (.bool (H.getD i false)) := by
  have := b.len
  rw [Lib.cell_of_heap b.has]
  simp [List.getD, show i < H.length by omega]
end

/-! ### a nil box -/

set_option maxRecDepth 100000 in
theorem of_nil (w : World) : Calls Try.prog 31 #[.pointer none] w fun e w' => e = .returned (.int .i64 0) ∧ w' = w := by
  go_enter Try.func31, Try.ntmps31
  go_wp2
  go_ret
  exact ⟨rfl, rfl⟩

set_option maxRecDepth 100000 in
theorem left_nil (w : World) : Calls Try.prog 32 #[.pointer none] w fun e w' => e = .returned (.int .i64 0) ∧ w' = w := by
  go_enter Try.func32, Try.ntmps32
  go_wp2
  go_ret
  exact ⟨rfl, rfl⟩

set_option maxRecDepth 100000 in
theorem missing_nil (n : Int) (w : World) : Calls Try.prog 33 #[.pointer none, .int .i64 n] w fun e w' => e = .returned (.slice none 0 0) ∧ w' = w := by
  go_enter Try.func33, Try.ntmps33
  go_wp2
  go_ret
  exact ⟨rfl, rfl⟩

set_option maxRecDepth 100000 in
theorem text_nil (w : World) : Calls Try.prog 28 #[.pointer none] w fun e w' => e = .returned (.tuple #[.string ⟨#[]⟩, .int .i64 1]) ∧ w' = w := by
  go_enter Try.func28, Try.ntmps28
  go_wp2
  go_ret2
  exact ⟨rfl, rfl⟩

set_option maxRecDepth 100000 in
theorem clear_nil (w : World) : Calls Try.prog 29 #[.pointer none] w fun e w' => e = .returned (.tuple #[]) ∧ w' = w := by
  go_enter Try.func29, Try.ntmps29
  go_wp2
  refine bodyPost_ret (results_none rfl _ _ _) rfl ?_
  exact ⟨rfl, rfl⟩

/-! ### reading -/

set_option maxRecDepth 100000 in
theorem of_calls {w : World} {a p h : Nat} {P : List ByteArray} {H : List Bool} {left bytes : Int} (b : BoxAt w a p h P H left bytes) :
    Calls Try.prog 31 #[.pointer (some ⟨a, 0, none⟩)] w fun e w' => e = .returned (.int .i64 (P.length : Int)) ∧ w' = w := by
  have c0 := b.c0
  clear b
  go_enter Try.func31, Try.ntmps31
  go_wp2
  go_ret
  exact ⟨rfl, rfl⟩

set_option maxRecDepth 100000 in
theorem left_calls {w : World} {a p h : Nat} {P : List ByteArray} {H : List Bool} {left bytes : Int} (b : BoxAt w a p h P H left bytes) :
    Calls Try.prog 32 #[.pointer (some ⟨a, 0, none⟩)] w fun e w' => e = .returned (.int .i64 left) ∧ w' = w := by
  have c2 := b.c2
  clear b
  go_enter Try.func32, Try.ntmps32
  go_wp2
  go_ret
  exact ⟨rfl, rfl⟩

/-! ### New -/

set_option maxRecDepth 100000 in
theorem new_refused (n : Int) (w : World) (hn : n < 1 ∨ 4096 < n) : Calls Try.prog 34 #[.int .i64 n] w fun e w' => e = .returned (.tuple #[.pointer none, .int .i64 1]) ∧ w' = w := by
  by_cases h1 : n < 1
  · have c1 : decide (n < 1) = true := decide_eq_true h1
    clear hn h1
    go_enter Try.func34, Try.ntmps34
    go_wp2
    go_ret2
    exact ⟨rfl, rfl⟩
  · have c1 : decide (n < 1) = false := decide_eq_false h1
    have c2 : decide (4096 < n) = true := decide_eq_true (by omega)
    clear hn h1
    go_enter Try.func34, Try.ntmps34
    go_wp2
    go_ret2
    exact ⟨rfl, rfl⟩

theorem make66 (n : Nat) (h1 : n ≤ 4096) (W : World) : (Instr.makeSlice 66 (.int .i64 (n : Int)) (.int .i64 (n : Int))).run Try.prog W = .ok (.slice (some ⟨W.heap.size, 0, none⟩) n n) (W.alloc (.cells (List.replicate n (Value.string ByteArray.empty)).toArray 9)) := by
  obtain ⟨i, hi, hz, hs, hb⟩ : ∃ i, Try.prog.info? 9 = some i ∧ i.zero = some (.string ByteArray.empty) ∧ i.size = 1 ∧ i.bytes = 16 := by
    have h := PChunk.info9
    cases he : Try.prog.info? 9 with
    | none => rw [he] at h; cases h
    | some i =>
      rw [he] at h
      simp at h
      exact ⟨i, rfl, h.1, h.2.1, h.2.2⟩
  have hr := run_make (P := Try.prog) W 66 9 i (.string ByteArray.empty) Try.underlying66 hi hz .i64 .i64 n n (by omega) (by omega) (by rw [hb]; omega) (by omega)
  rw [hs] at hr
  simp only [Int.toNat_natCast, Nat.mul_one] at hr
  rw [hr]
  have e : madeCells (Value.string ByteArray.empty).cells n = (List.replicate n (Value.string ByteArray.empty)).toArray := by
    apply Array.ext'
    have := toList_madeCells_one (Value.string ByteArray.empty) n
    simpa [Value.cells] using this
  rw [e]

theorem make76 (n : Nat) (h1 : n ≤ 4096) (W : World) : (Instr.makeSlice 76 (.int .i64 (n : Int)) (.int .i64 (n : Int))).run Try.prog W = .ok (.slice (some ⟨W.heap.size, 0, none⟩) n n) (W.alloc (.cells (List.replicate n (Value.bool false)).toArray 4)) := by
  obtain ⟨i, hi, hz, hs, hb⟩ : ∃ i, Try.prog.info? 4 = some i ∧ i.zero = some (.bool false) ∧ i.size = 1 ∧ i.bytes = 1 := by
    have h : (Try.prog.info? 4).map (fun i => (i.zero, i.size, i.bytes)) = some (some (.bool false), 1, 1) := by kernel_rfl
    cases he : Try.prog.info? 4 with
    | none => rw [he] at h; cases h
    | some i =>
      rw [he] at h
      simp at h
      exact ⟨i, rfl, h.1, h.2.1, h.2.2⟩
  have hr := run_make (P := Try.prog) W 76 4 i (.bool false) Try.underlying76 hi hz .i64 .i64 n n (by omega) (by omega) (by rw [hb]; omega) (by omega)
  rw [hs] at hr
  simp only [Int.toNat_natCast, Nat.mul_one] at hr
  rw [hr]
  have e : madeCells (Value.bool false).cells n = (List.replicate n (Value.bool false)).toArray := by
    apply Array.ext'
    have := toList_madeCells_one (Value.bool false) n
    simpa [Value.cells] using this
  rw [e]

theorem three_blocks (w : World) (A B C : Obj) : (((w.alloc A).alloc B).alloc C).drew.heap[w.heap.size]? = some A ∧ (((w.alloc A).alloc B).alloc C).drew.heap[w.heap.size + 1]? = some B ∧ (((w.alloc A).alloc B).alloc C).drew.heap[w.heap.size + 1 + 1]? = some C := by
  have e : (((w.alloc A).alloc B).alloc C).drew.heap = ((w.heap.push A).push B).push C := rfl
  rw [e]
  refine ⟨?_, ?_, ?_⟩
  · rw [Array.getElem?_push, if_neg (by simp; omega), Array.getElem?_push, if_neg (by simp), Array.getElem?_push, if_pos rfl]
  · rw [Array.getElem?_push, if_neg (by simp), Array.getElem?_push, if_pos (by simp)]
  · rw [Array.getElem?_push, if_pos (by simp)]

theorem three_below (w : World) (A B C : Obj) : Below w.heap.size w (((w.alloc A).alloc B).alloc C).drew :=
  ((((Below.refl _ w).alloc (Nat.le_refl _) A).alloc (by simp) B).alloc (by simp; omega) C).drew

set_option maxRecDepth 100000 in
theorem new_calls (n : Nat) (w : World) (h0 : 1 ≤ n) (h1 : n ≤ 4096) : Calls Try.prog 34 #[.int .i64 (n : Int)] w fun e w' =>
    ∃ a p h, e = .returned (.tuple #[.pointer (some ⟨a, 0, none⟩), .int .i64 0]) ∧ BoxAt w' a p h (List.replicate n ByteArray.empty) (List.replicate n false) n 0 ∧ (w.heap.size ≤ a ∧ w.heap.size ≤ p ∧ w.heap.size ≤ h) ∧ Below w.heap.size w w' := by
  have c1 : decide ((n : Int) < 1) = false := decide_eq_false (by omega)
  have c2 : decide (4096 < (n : Int)) = false := decide_eq_false (by omega)
  go_enter Try.func34, Try.ntmps34
  have m66 := make66 n h1
  have m76 := make76 n h1
  go_wp2
  go_region
  · go_wp2
    go_ret2
    refine ⟨w.heap.size + 1 + 1, w.heap.size, w.heap.size + 1, rfl, ?_, ⟨by omega, by omega, by omega⟩, three_below _ _ _ _⟩
    obtain ⟨e1, e2, e3⟩ := three_blocks w (.cells (Array.replicate n (Value.string ByteArray.empty)) 9) (.cells (Array.replicate n (Value.bool false)) 4) (.cells #[Value.slice (some ⟨w.heap.size, 0, none⟩) n n, Value.slice (some ⟨w.heap.size + 1, 0, none⟩) n n, Value.int .i64 n, Value.int .i64 0] 78)
    exact ⟨by rw [List.length_replicate]; exact e3, by rw [List.map_replicate, List.toArray_replicate]; exact e1, by rw [List.map_replicate, List.toArray_replicate]; exact e2, by simp, by omega, by omega, by omega⟩
  · go_wp2
    go_ret2
    refine ⟨w.heap.size + 1 + 1, w.heap.size + 1, w.heap.size, rfl, ?_, ⟨by omega, by omega, by omega⟩, three_below _ _ _ _⟩
    obtain ⟨e1, e2, e3⟩ := three_blocks w (.cells (Array.replicate n (Value.bool false)) 4) (.cells (Array.replicate n (Value.string ByteArray.empty)) 9) (.cells #[Value.slice (some ⟨w.heap.size + 1, 0, none⟩) n n, Value.slice (some ⟨w.heap.size, 0, none⟩) n n, Value.int .i64 n, Value.int .i64 0] 78)
    exact ⟨by rw [List.length_replicate]; exact e3, by rw [List.map_replicate, List.toArray_replicate]; exact e2, by rw [List.map_replicate, List.toArray_replicate]; exact e1, by simp, by omega, by omega, by omega⟩

/-! ### Put -/

theorem below_drewN_ {B : Nat} {a w : World} (h : Below B a w) (m : Nat) : Below B a (w.drewN m) := pw_below_drewN h m

set_option maxRecDepth 100000 in
theorem put_nil (at_ of_ : Int) (txt : ByteArray) (w : World) : Calls Try.prog 30 #[.pointer none, .agg #[.int .i64 at_, .int .i64 of_, .string txt]] w fun e w' => e = .returned (.int .i64 1) ∧ Below w.heap.size w w' := by
  go_enter Try.func30, Try.ntmps30
  go_wp2
  go_quiet (fail)
  go_wp2
  go_ret
  exact ⟨rfl, by repeat (first | exact Below.refl _ _ | apply below_alloc | apply pw_below_drewN | apply below_drew1)⟩

set_option maxRecDepth 100000 in
set_option maxHeartbeats 1000000 in
theorem put_of {w : World} {a p h : Nat} {P : List ByteArray} {H : List Bool} {left bytes : Int} (b0 : BoxAt w a p h P H left bytes) (at_ of_ : Int) (txt : ByteArray) (hof : of_ ≠ P.length) :
    Calls Try.prog 30 #[.pointer (some ⟨a, 0, none⟩), .agg #[.int .i64 at_, .int .i64 of_, .string txt]] w fun e w' => e = .returned (.int .i64 1) ∧ Below w.heap.size w w' := by
  have b := b0.below ((Below.refl _ w).alloc (Nat.le_refl _) (.cells #[.int .i64 at_, .int .i64 of_, .string txt] 36))
  have c0 := b.c0
  have t0 : (of_ != (P.length : Int)) = true := bne_iff_ne.mpr hof
  clear b b0
  go_enter Try.func30, Try.ntmps30
  go_wp2
  go_quiet (fail)
  go_wp2
  go_ret
  exact ⟨rfl, by repeat (first | exact Below.refl _ _ | apply below_alloc | apply pw_below_drewN | apply below_drew1)⟩

set_option maxRecDepth 100000 in
set_option maxHeartbeats 1000000 in
theorem put_range {w : World} {a p h : Nat} {P : List ByteArray} {H : List Bool} {left bytes : Int} (b0 : BoxAt w a p h P H left bytes) (at_ : Int) (txt : ByteArray) (hat : at_ < 0 ∨ (P.length : Int) ≤ at_) :
    Calls Try.prog 30 #[.pointer (some ⟨a, 0, none⟩), .agg #[.int .i64 at_, .int .i64 (P.length : Int), .string txt]] w fun e w' => e = .returned (.int .i64 2) ∧ Below w.heap.size w w' := by
  have b := b0.below ((Below.refl _ w).alloc (Nat.le_refl _) (.cells #[.int .i64 at_, .int .i64 (P.length : Int), .string txt] 36))
  have c0 := b.c0
  have t0 : ((P.length : Int) != (P.length : Int)) = false := by simp
  clear b b0
  by_cases h1 : at_ < 0
  · have t1 : decide (at_ < 0) = true := decide_eq_true h1
    clear hat h1
    go_enter Try.func30, Try.ntmps30
    go_wp2
    go_quiet (fail)
    go_wp2
    go_ret
    exact ⟨rfl, by repeat (first | exact Below.refl _ _ | apply below_alloc | apply pw_below_drewN | apply below_drew1)⟩
  · have t1 : decide (at_ < 0) = false := decide_eq_false h1
    have t2 : decide ((P.length : Int) ≤ at_) = true := decide_eq_true (by omega)
    clear hat h1
    go_enter Try.func30, Try.ntmps30
    go_wp2
    go_quiet (fail)
    go_wp2
    go_ret
    exact ⟨rfl, by repeat (first | exact Below.refl _ _ | apply below_alloc | apply pw_below_drewN | apply below_drew1)⟩

set_option maxRecDepth 100000 in
set_option maxHeartbeats 1000000 in
theorem put_has {w : World} {a p h : Nat} {P : List ByteArray} {H : List Bool} {left bytes : Int} (b0 : BoxAt w a p h P H left bytes) (i : Nat) (hi : i < P.length) (txt : ByteArray) (hh : H.getD i false = true) :
    Calls Try.prog 30 #[.pointer (some ⟨a, 0, none⟩), .agg #[.int .i64 (i : Int), .int .i64 (P.length : Int), .string txt]] w fun e w' => e = .returned (.int .i64 (if P.getD i ByteArray.empty = txt then 0 else 6)) ∧ Below w.heap.size w w' := by
  have b := b0.below ((Below.refl _ w).alloc (Nat.le_refl _) (.cells #[.int .i64 (i : Int), .int .i64 (P.length : Int), .string txt] 36))
  have c0 := b.c0
  have c1 := b.c1
  have cp := b.cp i hi
  have ch := b.ch i hi
  rw [hh] at ch
  generalize P.getD i ByteArray.empty = x at cp ⊢
  have t0 : ((P.length : Int) != (P.length : Int)) = false := by simp
  have t1 : decide ((i : Int) < 0) = false := decide_eq_false (by omega)
  have t2 : decide ((P.length : Int) ≤ (i : Int)) = false := decide_eq_false (by omega)
  have t3 : ((i : Int) < (P.length : Int)) = True := eq_true (by omega)
  have t4 : (0 ≤ (i : Int)) = True := eq_true (by omega)
  clear b b0 hh
  by_cases hx : x = txt
  · rw [if_pos hx]
    have t5 : (x.toList == txt.toList) = true := by rw [hx]; simp
    clear hx
    go_enter Try.func30, Try.ntmps30
    go_wp2
    go_quiet (fail)
    go_wp2
    go_quiet (fail)
    go_wp2
    go_quiet (fail)
    go_wp2
    go_ret
    exact ⟨rfl, by repeat (first | exact Below.refl _ _ | apply below_alloc | apply pw_below_drewN | apply below_drew1)⟩
  · rw [if_neg hx]
    have t5 : (x.toList == txt.toList) = false := by
      refine beq_eq_false_iff_ne.mpr (fun he => hx ?_)
      rw [ByteArray.toList_eq, ByteArray.toList_eq] at he
      cases x with
      | mk d => cases txt with
        | mk d2 => exact congrArg ByteArray.mk (Array.ext' he)
    clear hx
    go_enter Try.func30, Try.ntmps30
    go_wp2
    go_quiet (fail)
    go_wp2
    go_quiet (fail)
    go_wp2
    go_quiet (fail)
    go_wp2
    go_ret
    exact ⟨rfl, by repeat (first | exact Below.refl _ _ | apply below_alloc | apply pw_below_drewN | apply below_drew1)⟩

set_option maxRecDepth 100000 in
set_option maxHeartbeats 1000000 in
theorem put_long {w : World} {a p h : Nat} {P : List ByteArray} {H : List Bool} {left bytes : Int} (b0 : BoxAt w a p h P H left bytes) (i : Nat) (hi : i < P.length) (txt : ByteArray) (hh : H.getD i false = false) (h0 : 0 ≤ bytes) (h1 : bytes ≤ 524288) (hl : 524288 - bytes < (txt.size : Int)) :
    Calls Try.prog 30 #[.pointer (some ⟨a, 0, none⟩), .agg #[.int .i64 (i : Int), .int .i64 (P.length : Int), .string txt]] w fun e w' => e = .returned (.int .i64 4) ∧ Below w.heap.size w w' := by
  have b := b0.below ((Below.refl _ w).alloc (Nat.le_refl _) (.cells #[.int .i64 (i : Int), .int .i64 (P.length : Int), .string txt] 36))
  have c0 := b.c0
  have c1 := b.c1
  have c3 := b.c3
  have ch := b.ch i hi
  rw [hh] at ch
  have t0 : ((P.length : Int) != (P.length : Int)) = false := by simp
  have t1 : decide ((i : Int) < 0) = false := decide_eq_false (by omega)
  have t2 : decide ((P.length : Int) ≤ (i : Int)) = false := decide_eq_false (by omega)
  have t3 : ((i : Int) < (P.length : Int)) = True := eq_true (by omega)
  have t4 : (0 ≤ (i : Int)) = True := eq_true (by omega)
  have t6 : decide (524288 - bytes < (txt.size : Int)) = true := decide_eq_true hl
  have t7 : IntKind.i64.wrap (524288 - bytes) = 524288 - bytes := by rw [IntKind.wrap_i64]; omega
  clear b b0 hh
  go_enter Try.func30, Try.ntmps30
  go_wp2
  go_quiet (fail)
  go_wp2
  go_quiet (fail)
  go_wp2
  go_quiet (fail)
  go_wp2
  go_ret
  exact ⟨rfl, by repeat (first | exact Below.refl _ _ | apply below_alloc | apply pw_below_drewN | apply below_drew1)⟩

end Go.Proofs.YtdomngcedflapaaW.Box

/- The walk of Put where the place is free. -/
import Derived.Test.YtdomngcedflapaaBox
import Derived.Lib.SmallJoins
namespace Go.Proofs.YtdomngcedflapaaW.Box
open Go.RowKit Go.Proofs.Ytdomngcedflapaa Go.Proofs.YtdomngcedflapaaW.PrintWords Go.Proofs.YtdomngcedflapaaW.PrintLast Go.Proofs.YtdomngcedflapaaW.PrintMore

theorem BoxAt.drew {w : World} {a p h : Nat} {P : List ByteArray} {H : List Bool} {left bytes : Int} (b : BoxAt w a p h P H left bytes) : BoxAt w.drew a p h P H left bytes := ⟨b.box, b.parts, b.has, b.len, b.ap, b.ah, b.ph⟩

theorem onlyAD (w : World) (o : Obj) (n : Nat) (S : Nat → Prop) : Only S w ((w.alloc o).drewN n) :=
  Only.of_below (pw_below_drewN ((Below.refl _ w).alloc (Nat.le_refl _) o) n)

/-- The four stores of a new part. -/
theorem BoxAt.put {w : World} {a p h : Nat} {P : List ByteArray} {H : List Bool} {left bytes : Int} (b : BoxAt w a p h P H left bytes) {i : Nat} (txt : ByteArray) (l' b' : Int) (n : Nat) :
    BoxAt (((((w.drewN n).setCell ⟨p, i, none⟩ (.string txt)).setCell ⟨h, i, none⟩ (.bool true)).setCell ⟨a, 2, none⟩ (.int .i64 l')).setCell ⟨a, 3, none⟩ (.int .i64 b')) a p h (P.set i txt) (H.set i true) l' b' := by
  have b1 : BoxAt (w.drewN n) a p h P H left bytes := b.move rfl rfl rfl
  have hh := b.len
  refine ⟨?_, ?_, ?_, by simp [hh], b.ap, b.ah, b.ph⟩
  · have e1 := Go.Joins.block_setCell (i := 2) (((Below.heap_setCell _ ⟨h, i, none⟩ (.bool true) a b.ah).trans (Below.heap_setCell _ ⟨p, i, none⟩ (.string txt) a b.ap)).trans b1.box) (.int .i64 l')
    have e2 := Go.Joins.block_setCell (i := 3) e1 (.int .i64 b')
    rw [e2, List.length_set]
    rfl
  · have e1 := Go.Joins.block_setCell (i := i) b1.parts (.string txt)
    refine ((Below.heap_setCell _ ⟨a, 3, none⟩ (.int .i64 b') p b.ap.symm).trans ((Below.heap_setCell _ ⟨a, 2, none⟩ (.int .i64 l') p b.ap.symm).trans ((Below.heap_setCell _ ⟨h, i, none⟩ (.bool true) p b.ph).trans e1))).trans ?_
    rw [List.setIfInBounds_toArray, List.map_set]
  · have e1 := Go.Joins.block_setCell (i := i) (((Below.heap_setCell (w.drewN n) ⟨p, i, none⟩ (.string txt) h b.ph.symm)).trans b1.has) (.bool true)
    refine ((Below.heap_setCell _ ⟨a, 3, none⟩ (.int .i64 b') h b.ah.symm).trans ((Below.heap_setCell _ ⟨a, 2, none⟩ (.int .i64 l') h b.ah.symm).trans e1)).trans ?_
    rw [List.setIfInBounds_toArray, List.map_set]

set_option maxRecDepth 100000 in
set_option maxHeartbeats 1000000 in
theorem put_new {w : World} {a p h : Nat} {P : List ByteArray} {H : List Bool} {left bytes : Int} (b0 : BoxAt w a p h P H left bytes) (i : Nat) (hi : i < P.length) (txt : ByteArray) (hh : H.getD i false = false) (h0 : 0 ≤ bytes) (h1 : bytes ≤ 524288) (hl : (txt.size : Int) ≤ 524288 - bytes) (hl0 : 0 ≤ left) (hl1 : left ≤ 4096) :
    Calls Try.prog 30 #[.pointer (some ⟨a, 0, none⟩), .agg #[.int .i64 (i : Int), .int .i64 (P.length : Int), .string txt]] w fun e w' => e = .returned (.int .i64 0) ∧ BoxAt w' a p h (P.set i txt) (H.set i true) (left - 1) (bytes + txt.size) ∧ Only (fun k => k = a ∨ k = p ∨ k = h) w w' := by
  have b := b0.below ((Below.refl _ w).alloc (Nat.le_refl _) (.cells #[.int .i64 (i : Int), .int .i64 (P.length : Int), .string txt] 36))
  have HBX := Aside0.mk b
  have c0 := b.c0
  have c1 := b.c1
  have c2 := b.c2
  have c3 := b.c3
  have ch := b.ch i hi
  have cp := b.cp i hi
  have fa2 := b.f 2
  have fa3 := b.f 3
  have fp := b.fp i
  have fh := b.fh i
  have nap := b0.ap
  have nah := b0.ah
  have nph := b0.ph
  have npa := b0.ap.symm
  have nha := b0.ah.symm
  have nhp := b0.ph.symm
  have na : a ≠ w.heap.size := by have := heap_lt b0.box; omega
  have np : p ≠ w.heap.size := by have := heap_lt b0.parts; omega
  have nh : h ≠ w.heap.size := by have := heap_lt b0.has; omega
  have na' := na.symm
  have np' := np.symm
  have nh' := nh.symm
  rw [hh] at ch
  have t0 : ((P.length : Int) != (P.length : Int)) = false := by simp
  have t1 : decide ((i : Int) < 0) = false := decide_eq_false (by omega)
  have t2 : decide ((P.length : Int) ≤ (i : Int)) = false := decide_eq_false (by omega)
  have t3 : ((i : Int) < (P.length : Int)) = True := eq_true (by omega)
  have t4 : (0 ≤ (i : Int)) = True := eq_true (by omega)
  have t6 : decide (524288 - bytes < (txt.size : Int)) = false := decide_eq_false (by omega)
  have t7 : IntKind.i64.wrap (524288 - bytes) = 524288 - bytes := by rw [IntKind.wrap_i64]; omega
  clear b b0 hh
  go_enter Try.func30, Try.ntmps30
  go_wp2
  go_quiet (fail)
  go_wp2
  go_quiet (fail)
  go_wp2
  go_quiet (fail)
  go_wp2
  go_region
  have t8 : IntKind.i64.wrap (left - 1) = left - 1 := by rw [IntKind.wrap_i64]; omega
  have t9 : IntKind.i64.wrap (bytes + (txt.size : Int)) = bytes + (txt.size : Int) := by rw [IntKind.wrap_i64]; omega
  go_wp2
  go_region
  go_wp2
  go_ret
  refine ⟨rfl, (HBX.out.put txt (left - 1) (bytes + txt.size) _ ).drew, ?_⟩
  exact (Only.setCell (Only.setCell (Only.setCell (Only.setCell (onlyAD w _ _ _) (Or.inl (Or.inr (Or.inl rfl))) _) (Or.inl (Or.inr (Or.inr rfl))) _) (Or.inl (Or.inl rfl)) _) (Or.inl (Or.inl rfl)) _).drew

end Go.Proofs.YtdomngcedflapaaW.Box

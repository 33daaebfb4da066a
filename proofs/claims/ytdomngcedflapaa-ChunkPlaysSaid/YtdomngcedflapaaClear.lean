/- The walk of Clear. -/
import Derived.Test.YtdomngcedflapaaRPut
import Derived.Lib.SliceRun
namespace Go.Proofs.YtdomngcedflapaaW.Ref
open Go.RowKit Go.Proofs.Ytdomngcedflapaa Go.Proofs.YtdomngcedflapaaW.PrintWords Go.Proofs.YtdomngcedflapaaW.PrintLast Go.Proofs.YtdomngcedflapaaW.PrintMore
open Go.Proofs.YtdomngcedflapaaW.Box

/-- Many cells of one block are written: the block behind it. -/
theorem setCells_block {g : Nat} {t : TypeId} {fr : Nat × Nat} (z : Value) : ∀ (n o : Nat) (w : World) (cs : List Value), w.heap[g]? = some (.cells cs.toArray t fr) → o + n ≤ cs.length →
    (w.setCells g o (List.replicate n z)).heap[g]? = some (.cells (cs.take o ++ List.replicate n z ++ cs.drop (o + n)).toArray t fr)
  | 0, o, w, cs, h, _ => by
    simp [World.setCells, h]
  | n + 1, o, w, cs, h, hl => by
    have h1 := Go.Joins.block_setCell (i := o) h z
    rw [List.setIfInBounds_toArray] at h1
    have ih := setCells_block z n (o + 1) (w.setCell ⟨g, o, none⟩ z) (cs.set o z) h1 (by simp; omega)
    show ((w.setCell ⟨g, o, none⟩ z).setCells g (o + 1) (List.replicate n z)).heap[g]? = _
    rw [ih]
    congr 2
    apply congrArg
    have e1 : (cs.set o z).take (o + 1) = cs.take o ++ [z] := by
      rw [List.take_add_one, List.take_set_of_le (by omega)]
      simp [show o < cs.length by omega]
    have e2 : (cs.set o z).drop (o + 1 + n) = cs.drop (o + (n + 1)) := by
      rw [List.drop_set_of_lt (by omega)]
      congr 1
      omega
    rw [e1, e2, List.replicate_succ]
    simp

theorem setCells_other (g : Nat) (vs : List Value) : ∀ (o : Nat) (w : World) (k : Nat), k ≠ g → (w.setCells g o vs).heap[k]? = w.heap[k]? := by
  induction vs with
  | nil => intro o w k _; rfl
  | cons v vs ih =>
    intro o w k hk
    show ((w.setCell ⟨g, o, none⟩ v).setCells g (o + 1) vs).heap[k]? = _
    rw [ih _ _ k hk]
    exact Below.heap_setCell w _ v k hk

theorem Only.setCells {S : Nat → Prop} {w0 : World} (g : Nat) (hg : S g) (vs : List Value) : ∀ (o : Nat) (w : World), Only S w0 w → Only S w0 (w.setCells g o vs) := by
  induction vs with
  | nil => intro o w h; exact h
  | cons v vs ih =>
    intro o w h
    exact ih _ _ (h.setCell (p := ⟨g, o, none⟩) (Or.inl hg) v)

/-- The two stores of numbers. -/
theorem boxAt_fields {w : World} {a p h : Nat} {P : List ByteArray} {H : List Bool} {left bytes : Int} (b : BoxAt w a p h P H left bytes) (l' b' : Int) :
    BoxAt ((w.setCell ⟨a, 2, none⟩ (.int .i64 l')).setCell ⟨a, 3, none⟩ (.int .i64 b')) a p h P H l' b' := by
  refine ⟨?_, ?_, ?_, b.len, b.ap, b.ah, b.ph⟩
  · have e1 := Go.Joins.block_setCell (i := 2) b.box (.int .i64 l')
    have e2 := Go.Joins.block_setCell (i := 3) e1 (.int .i64 b')
    rw [e2]
    rfl
  · exact ((Below.heap_setCell _ ⟨a, 3, none⟩ (.int .i64 b') p b.ap.symm).trans (Below.heap_setCell _ ⟨a, 2, none⟩ (.int .i64 l') p b.ap.symm)).trans b.parts
  · exact ((Below.heap_setCell _ ⟨a, 3, none⟩ (.int .i64 b') h b.ah.symm).trans (Below.heap_setCell _ ⟨a, 2, none⟩ (.int .i64 l') h b.ah.symm)).trans b.has

set_option maxRecDepth 100000 in
set_option maxHeartbeats 2000000 in
theorem clear_calls {w : World} {a p h : Nat} {x : Bx} (b : At w a p h x) (hn0 : 0 < x.P.length) :
    Calls Try.prog 29 #[.pointer (some ⟨a, 0, none⟩)] w fun e w' => e = .returned (.tuple #[]) ∧ At w' a p h (Bx.fresh x.P.length) ∧ Only (Three a p h) w w' := by
  have hz9 : ∀ w, (zeroValue 9).run Try.prog w = .ok (.string ByteArray.empty) w := fun w => by
    have h : (Try.prog.info? 9).map (fun i => i.zero) = some (some (.string ByteArray.empty)) := by kernel_rfl
    obtain ⟨i, hi, hz⟩ := Option.map_eq_some_iff.1 h
    simp [zeroValue, typeInfo, hi, hz]
  have hz4 : ∀ w, (zeroValue 4).run Try.prog w = .ok (.bool false) w := fun w => by
    have h : (Try.prog.info? 4).map (fun i => i.zero) = some (some (.bool false)) := by kernel_rfl
    obtain ⟨i, hi, hz⟩ := Option.map_eq_some_iff.1 h
    simp [zeroValue, typeInfo, hi, hz]
  have hl : x.H.length = x.P.length := b.len
  obtain ⟨m, hm⟩ : ∃ m, x.P.length = m := ⟨_, rfl⟩
  have hp := Lib.run_clear_slice (P := Try.prog) w 66 9 0 (.string ByteArray.empty) Try.underlying66 hz9 rfl rfl p 0 x.P.length x.P.length hn0 (fun j hj => by rw [Nat.zero_add, b.cp j hj]; rfl) (fun j _ => b.fp _)
  have b2 : BoxAt (w.setCells p 0 (List.replicate x.P.length (.string ByteArray.empty))) a p h (List.replicate x.P.length ByteArray.empty) x.H x.left x.bytes := by
    refine ⟨?_, ?_, ?_, by simp [hl], b.ap, b.ah, b.ph⟩
    · rw [setCells_other _ _ _ _ _ b.ap, b.box, List.length_replicate]
    · rw [setCells_block (.string ByteArray.empty) x.P.length 0 w (x.P.map Value.string) b.parts (by simp)]
      rw [List.take_zero, List.nil_append, Nat.zero_add, List.drop_eq_nil_of_le (by simp), List.append_nil, List.map_replicate]
    · rw [setCells_other _ _ _ _ _ b.ph.symm, b.has]
  have o2 : Only (Three a p h) w (w.setCells p 0 (List.replicate x.P.length (.string ByteArray.empty))) := Only.setCells p (Or.inr (Or.inl rfl)) _ _ _ ⟨rfl, rfl, rfl, Nat.le_refl _, fun _ _ _ => rfl⟩
  generalize w.setCells p 0 (List.replicate x.P.length (.string ByteArray.empty)) = w2 at hp b2 o2
  have hh := Lib.run_clear_slice (P := Try.prog) w2 76 4 0 (.bool false) Try.underlying76 hz4 rfl rfl h 0 x.P.length x.P.length hn0 (fun j hj => by rw [Nat.zero_add, b2.ch j (by simpa using hj)]; rfl) (fun j _ => b2.fh _)
  have b3 : BoxAt (w2.setCells h 0 (List.replicate x.P.length (.bool false))) a p h (List.replicate x.P.length ByteArray.empty) (List.replicate x.P.length false) x.left x.bytes := by
    refine ⟨?_, ?_, ?_, by simp, b.ap, b.ah, b.ph⟩
    · rw [setCells_other _ _ _ _ _ b.ah, b2.box]
    · rw [setCells_other _ _ _ _ _ b.ph, b2.parts]
    · rw [setCells_block (.bool false) x.P.length 0 w2 (x.H.map Value.bool) b2.has (by simp [hl])]
      rw [List.take_zero, List.nil_append, Nat.zero_add, List.drop_eq_nil_of_le (by simp [hl]), List.append_nil, List.map_replicate]
  have o3 : Only (Three a p h) w (w2.setCells h 0 (List.replicate x.P.length (.bool false))) := Only.setCells h (Or.inr (Or.inr rfl)) _ _ _ o2
  generalize w2.setCells h 0 (List.replicate x.P.length (.bool false)) = w3 at hh b3 o3
  have c0 := b.c0
  have c1 := b2.c1
  have d0 := b3.c0
  have d2 := b3.c2
  have d3 := b3.c3
  have f2 := b3.f 2
  have f3 := b3.f 3
  rw [List.length_replicate] at c1 d0
  have HB3 := Aside0.mk b3
  have HO3 := Aside0.mk o3
  clear b b2 b3 o2 o3 hz9 hz4 hl hn0
  rw [hm] at c0 c1 d0 hp hh HB3 ⊢
  clear hm
  go_enter Try.func29, Try.ntmps29
  go_wp2
  go_end0
  refine ⟨rfl, ?_, ?_⟩
  · have e := boxAt_fields HB3.out (m : Int) 0
    exact e
  · exact Only.setCell (S := Three a p h) (Only.setCell (S := Three a p h) HO3.out (Or.inl (Or.inl rfl)) _) (Or.inl (Or.inl rfl)) _

end Go.Proofs.YtdomngcedflapaaW.Ref

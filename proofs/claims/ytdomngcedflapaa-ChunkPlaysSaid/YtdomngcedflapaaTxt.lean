/- The walk of Text. -/
import Derived.Test.YtdomngcedflapaaPlay
namespace Go.Proofs.YtdomngcedflapaaW.Box
open Go.RowKit Go.Proofs.Ytdomngcedflapaa Go.Proofs.YtdomngcedflapaaW.PrintWords Go.Proofs.YtdomngcedflapaaW.PrintLast Go.Proofs.YtdomngcedflapaaW.PrintMore

/-- All texts, one behind the other. -/
def joinAll (P : List ByteArray) : ByteArray := ⟨(Lib.join (P.map (·.data.toList)) (⟨#[]⟩ : ByteArray).data.toList).toArray⟩

set_option maxRecDepth 100000 in
theorem text_short {w : World} {a p h : Nat} {x : Bx} (b : At w a p h x) (h0 : 0 < x.left) : Calls Try.prog 28 #[.pointer (some ⟨a, 0, none⟩)] w fun e w' => e = .returned (.tuple #[.string ⟨#[]⟩, .int .i64 3]) ∧ w' = w := by
  have c2 := BoxAt.c2 b
  have t0 : decide (0 < x.left) = true := decide_eq_true h0
  clear b h0
  go_enter Try.func28, Try.ntmps28
  go_wp2
  go_ret2
  exact ⟨rfl, rfl⟩

set_option maxRecDepth 100000 in
theorem text_full {w : World} {a p h : Nat} {x : Bx} (b : At w a p h x) (h0 : ¬ 0 < x.left) (hN : x.P.length ≤ 4096) (hlen : (joinAll x.P).size ≤ 140737488355328) : Calls Try.prog 28 #[.pointer (some ⟨a, 0, none⟩)] w fun e w' => e = .returned (.tuple #[.string (joinAll x.P), .int .i64 0]) ∧ Below w.heap.size w w' := by
  have c0 := BoxAt.c0 b
  have c2 := BoxAt.c2 b
  have t0 : decide (0 < x.left) = false := decide_eq_false h0
  have HJ := Aside0.mk (Try.strings_Join p 0 x.P.length x.P ⟨#[]⟩ w (fun j y hj => by
    obtain ⟨hlt, e⟩ := List.getElem?_eq_some_iff.1 hj
    have := BoxAt.cp b j hlt
    rw [Nat.zero_add, this]
    simp [List.getD, hlt, e]) (heap_lt b.parts) (by omega) (Nat.le_refl _) (by
      have e : (joinAll x.P).size = (Lib.join (x.P.map (·.data.toList)) (⟨#[]⟩ : ByteArray).data.toList).length := by
        show (Lib.join (x.P.map (·.data.toList)) (⟨#[]⟩ : ByteArray).data.toList).toArray.size = _
        simp
      omega))
  clear b h0
  go_enter Try.func28, Try.ntmps28
  go_wp2_with (first | (go_at_call 48; refine HJ.out.mono ?_; rintro e w3 ⟨rfl, hb⟩))
  go_ret2
  exact ⟨rfl, hb⟩

end Go.Proofs.YtdomngcedflapaaW.Box

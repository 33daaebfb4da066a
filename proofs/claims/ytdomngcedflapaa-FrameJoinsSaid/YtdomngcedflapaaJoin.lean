/- The walk of the program's Join: what it answers for sums of 32 bits and any length. -/
import Derived.Test.YtdomngcedflapaaMat
namespace Go.Proofs.YtdomngcedflapaaW.Mat
open Go.RowKit Go.Proofs.Ytdomngcedflapaa Go.Proofs.Ytdomngcedflapaa.PFrame Go.Proofs.YtdomngcedflapaaW.PrintWords Go.Proofs.YtdomngcedflapaaW.PrintLast Go.Proofs.YtdomngcedflapaaW.PrintMore
open Go.Proofs.YtdomngcedflapaaW.Mine Go.Proofs.YtdomngcedflapaaW.Crc
attribute [local go_sem high] unary_xor_u32

theorem wrap_pow (j : Nat) : IntKind.u32.wrap (2 ^ j) = (((1#32 <<< j).toNat : Nat) : Int) := by
  rw [IntKind.wrap_u32, BitVec.toNat_shiftLeft, Nat.shiftLeft_eq]
  have h1 : (1#32).toNat = 1 := rfl
  rw [h1]
  simp

/-- What turned answers; the world is as it was. -/
theorem turned_same (r : BitVec 32) (w : World) : Calls Try.prog 46 #[.int .u32 (r.toNat : Int)] w fun e w' => e = .returned (.int .u32 (((turn r).toNat : Nat) : Int)) ∧ w' = w := by
  have h := turned_eq r
  unfold frame_turned.f at h
  by_cases c : (Go.bits .and .u32 (r.toNat : Int) 1) = 1
  · rw [if_pos c] at h
    have c0 : (Go.bits .and .u32 (r.toNat : Int) 1 == 1) = true := beq_iff_eq.mpr c
    clear c
    rw [← Option.some.inj h]
    clear h
    go_enter Try.func46, Try.ntmps46
    go_wp2
    go_ret
    exact ⟨rfl, rfl⟩
  · rw [if_neg c] at h
    have c0 : (Go.bits .and .u32 (r.toNat : Int) 1 == 1) = false := beq_eq_false_iff_ne.mpr c
    clear c
    rw [← Option.some.inj h]
    clear h
    go_enter Try.func46, Try.ntmps46
    go_wp2
    go_ret
    exact ⟨rfl, rfl⟩

theorem turned_at (j : Nat) (w : World) : Calls Try.prog 46 #[.int .u32 (IntKind.u32.wrap (2 ^ j))] w fun e w' => e = .returned (.int .u32 (mapOf 1 j)) ∧ w' = w := by
  rw [wrap_pow]
  exact turned_same _ w

theorem odd_at (n : Nat) (hn : n ≤ 9223372036854775807) : Go.bits .and .i64 (n : Int) 1 = if n % 2 = 1 then 1 else 0 := by
  have h : Go.bits .and .i64 (n : Int) 1 = IntKind.i64.wrap (((BitVec.ofInt 64 (n : Int)) &&& (BitVec.ofInt 64 1)).toNat : Int) := rfl
  have e : BitVec.ofInt 64 1 = 1#64 := by decide
  have e1 : (1#64).toNat = 1 := rfl
  rw [h, e, BitVec.toNat_and, e1, Nat.and_one_is_mod, BitVec.ofInt_natCast, BitVec.toNat_ofNat, Nat.mod_eq_of_lt (show n < 2 ^ 64 by omega), IntKind.wrap_i64]
  rcases Nat.mod_two_eq_zero_or_one n with h0 | h0
  · rw [h0, if_neg (by decide)]
    rfl
  · rw [h0, if_pos rfl]
    rfl

theorem MatAt.drew {w : World} {a : Nat} {M : Nat → Int} (h : MatAt w a M) : MatAt w.drew a M := h.below (Below.drew (Below.refl (a + 1) w)) (Nat.lt_succ_self a)

set_option maxHeartbeats 3000000 in
set_option maxRecDepth 100000 in
/-- What Join answers. -/
theorem join_calls (a b : Int) (n : Nat) (w : World) (ha0 : 0 ≤ a) (ha1 : a ≤ 4294967295) (hb0 : 0 ≤ b) (hb1 : b ≤ 4294967295) (hn : n ≤ 9223372036854775807) :
    Calls Try.prog 39 #[.int .i64 a, .int .i64 b, .int .i64 (n : Int)] w fun e w' => e = .returned (.tuple #[.int .i64 (((turns (8 * n) (low a) ^^^ low b).toNat : Nat) : Int), .int .i64 0]) ∧ Below w.heap.size w w' := by
  have c1 : decide (a < 0) = false := decide_eq_false (by omega)
  have c2 : decide (b < 0) = false := decide_eq_false (by omega)
  have c3 : decide (((n : Nat) : Int) < 0) = false := decide_eq_false (by omega)
  have c4 : decide (4294967295 < a) = false := decide_eq_false (by omega)
  have c5 : decide (4294967295 < b) = false := decide_eq_false (by omega)
  have LA := low_toNat a
  have LB := low_toNat b
  have HN := Aside0.mk hn
  clear hn ha0 ha1 hb0 hb1
  go_enter Try.func39, Try.ntmps39
  go_wp2
  go_loopg [31] 32 (fun kq v31 w' => ∃ j : Nat, v31 = .int .i64 (j : Int) ∧ Aside0 (j + kq = 32) ∧ Aside0 (MatAt w' w.heap.size (fun i => if i < j then mapOf 1 i else 0)) ∧ Aside0 (Below w.heap.size w w'))
  case atStart =>
    exact ⟨0, rfl, ⟨rfl⟩, ⟨(MatAt.fresh w _ 87 rfl).congr (fun i _ => by rw [if_neg (by omega)])⟩, ⟨(Below.refl _ _).alloc (Nat.le_refl _) _⟩⟩
  case round =>
    obtain ⟨j, rfl, HK, HR, HB⟩ := hrel
    by_cases hj : j < 32
    · obtain ⟨k1, rfl⟩ : ∃ k1, gk = k1 + 1 := ⟨gk - 1, by have := HK.out; omega⟩
      have c0 : decide ((j : Int) < 32) = true := decide_eq_true (by omega)
      have ci : ((j : Int) < 32) = True := eq_true (by omega)
      have hf := HR.out.loose j hj
      have hcc := HR.out.cell j hj
      go_wp2
      go_still_tail 7, (by kernel_rfl)
      still_call (turned_at j _)
      repeat still_step
      refine wpStill_nil ?_
      change wpList _ _ _ _ _ wr.drew
      go_wp2
      go_roundg k1
      case measure => omega
      case rel =>
        refine ⟨j + 1, rfl, ⟨by have := HK.out; omega⟩, ⟨?_⟩, ⟨?_⟩⟩
        · refine (HR.out.put j hj _).drew.congr (fun i hi => ?_)
          by_cases e : i = j
          · subst e
            rw [if_pos rfl, if_pos (by omega)]
          · rw [if_neg e]
            by_cases h2 : i < j
            · rw [if_pos h2, if_pos (by omega)]
            · rw [if_neg h2, if_neg (by omega)]
        · exact (HB.out.setCell (p := ⟨w.heap.size, j, none⟩) (Nat.le_refl _) _).drew
    · obtain rfl : j = 32 := by have := HK.out; omega
      have c0 : decide (((32 : Nat) : Int) < 32) = false := by decide
      have HM := Aside0.mk (HR.out.congr (N := mapOf 1) (fun i hi => if_pos hi))
      have HL := Aside0.mk (Nat.le_refl w.heap.size)
      clear HR HK hj
      go_wp2_with (go_at_call 55; refine (twice_calls _ _ _ HM.out).mono ?_; rintro e w3 ⟨b3, rfl, hm3, hl3, hb3⟩; have n0_ := Aside0.mk hm3; have n1_ := Aside0.mk (Nat.le_trans HB.out.size hl3); have n2_ := Aside0.mk (below_step HB.out hb3); clear HM HL HB hm3 hl3 hb3; have HM := n0_; have HL := n1_; have HB := n2_; clear n0_ n1_ n2_)
      have HM8 := Aside0.mk (HM.out.congr (N := mapOf 8) (fun i _ => by
        simp only [twice_map]))
      clear HM
      go_loopg [2, 8, 10] (n + 1) (fun kq v2 v8 v10 w' => ∃ (b8 e8 n8 : Nat) (x8 : BitVec 32), v2 = .int .i64 (n8 : Int) ∧ v8 = .pointer (some ⟨b8, 0, none⟩) ∧ v10 = .int .u32 ((x8.toNat : Nat) : Int) ∧ Aside0 (turns (e8 * n8) x8 = turns (8 * n) (low a)) ∧ Aside0 (n8 + 1 ≤ kq ∧ n8 ≤ n) ∧ Aside0 (MatAt w' b8 (mapOf e8)) ∧ Aside0 (w.heap.size ≤ b8) ∧ Aside0 (Below w.heap.size w w'))
      case atStart => exact ⟨_, 8, n, low a, rfl, rfl, by rw [LA], ⟨rfl⟩, ⟨Nat.le_refl _, Nat.le_refl _⟩, HM8, HL, HB⟩
      case round =>
        clear HM8 HL HB
        obtain ⟨b8, e8, n8, x8, rfl, rfl, rfl, HT, HK, HM, HL, HB⟩ := hrel
        by_cases hn8 : n8 = 0
        · subst hn8
          have d0 : decide (0 < ((0 : Nat) : Int)) = false := by decide
          have HE : x8 = turns (8 * n) (low a) := by have := HT.out; rw [Nat.mul_zero] at this; exact this
          go_wp2
          go_ret2
          refine ⟨?_, HB.out⟩
          have hlt := (turns (8 * n) (low a) ^^^ low b).isLt
          rw [← LB, bits_xor_u32, wrap64_id (by omega) (by omega)]
          rfl
        · obtain ⟨k1, rfl⟩ : ∃ k1, gk = k1 + 1 := ⟨gk - 1, by have := HK.out; omega⟩
          have d0 : decide (0 < (n8 : Int)) = true := decide_eq_true (by omega)
          have ho := odd_at n8 (by have := HK.out; have := HN.out; omega)
          have HH := Aside0.mk (turns_half e8 n8 x8)
          by_cases h2 : n8 % 2 = 1
          · rw [if_pos h2] at ho
            have ho1 : (Go.bits .and .i64 (n8 : Int) 1 == 1) = true := beq_iff_eq.mpr ho
            clear ho
            go_wp2_with (first | (go_at_call 56; refine (times_calls _ _ _ _ HM.out.cell).mono ?_; rintro e w3 ⟨rfl, hd⟩; have n0_ := Aside0.mk (HM.out.drawn hd); have n1_ := Aside0.mk (below_drawn HB.out hd); clear HM HB hd; have HM := n0_; have HB := n1_; clear n0_ n1_) | (go_at_call 55; refine (twice_calls _ _ _ HM.out).mono ?_; rintro e w3 ⟨b3, rfl, hm3, hl3, hb3⟩; have n0_ := Aside0.mk hm3; have n1_ := Aside0.mk (Nat.le_trans HB.out.size hl3); have n2_ := Aside0.mk (below_step HB.out hb3); clear HM HL HB hm3 hl3 hb3; have HM := n0_; have HL := n1_; have HB := n2_; clear n0_ n1_ n2_))
            go_roundg k1
            case measure => omega
            case rel =>
              refine ⟨_, e8 + e8, n8 / 2, turns e8 x8, ?_, rfl, by rw [times_map_all], ⟨?_⟩, ⟨?_, ?_⟩, ⟨HM.out.congr (fun i _ => by rw [twice_map])⟩, HL, HB⟩
              · simp
              · have h5 := HH.out
                rw [if_pos h2] at h5
                rw [← h5]
                exact HT.out
              · have := HK.out; omega
              · have := HK.out; omega
          · rw [if_neg h2] at ho
            have ho1 : (Go.bits .and .i64 (n8 : Int) 1 == 1) = false := by rw [ho]; rfl
            clear ho
            go_wp2_with (go_at_call 55; refine (twice_calls _ _ _ HM.out).mono ?_; rintro e w3 ⟨b3, rfl, hm3, hl3, hb3⟩; have n0_ := Aside0.mk hm3; have n1_ := Aside0.mk (Nat.le_trans HB.out.size hl3); have n2_ := Aside0.mk (below_step HB.out hb3); clear HM HL HB hm3 hl3 hb3; have HM := n0_; have HL := n1_; have HB := n2_; clear n0_ n1_ n2_)
            go_roundg k1
            case measure => omega
            case rel =>
              refine ⟨_, e8 + e8, n8 / 2, x8, ?_, rfl, rfl, ⟨?_⟩, ⟨?_, ?_⟩, ⟨HM.out.congr (fun i _ => by rw [twice_map])⟩, HL, HB⟩
              · simp
              · have h5 := HH.out
                rw [if_neg h2] at h5
                rw [← h5]
                exact HT.out
              · have := HK.out; omega
              · have := HK.out; omega

end Go.Proofs.YtdomngcedflapaaW.Mat

namespace Go.Proofs.Ytdomngcedflapaa.PFrame
open Go.RowKit Go.Proofs.YtdomngcedflapaaW.Mat Go.Proofs.YtdomngcedflapaaW.Crc

/-- Join, where its arguments are sums and a length. -/
def frame_Join.f (a0 : Int) (a1 : Int) (a2 : Int) : Option (Int × Int) :=
  if 0 ≤ a0 then if a0 ≤ 4294967295 then if 0 ≤ a1 then if a1 ≤ 4294967295 then if 0 ≤ a2 then if a2 ≤ 9223372036854775807 then
    some ((((turns (8 * a2.toNat) (low a0) ^^^ low a1).toNat : Nat) : Int), 0) else none else none else none else none else none else none

theorem frame_Join.calls (a0 : Int) (a1 : Int) (a2 : Int) (r1 : Int) (r2 : Int) (w : World) (h : frame_Join.f a0 a1 a2 = some (r1, r2)) :
    Calls Try.prog 39 #[.int .i64 a0, .int .i64 a1, .int .i64 a2] w fun e w' => e = .returned (.tuple #[.int .i64 r1, .int .i64 r2]) ∧ Below w.heap.size w w' := by
  unfold frame_Join.f at h
  split at h
  · split at h
    · split at h
      · split at h
        · split at h
          · split at h
            · rename_i h1 h2 h3 h4 h5 h6
              simp only [Option.some.injEq, Prod.mk.injEq] at h
              obtain ⟨rfl, rfl⟩ := h
              obtain ⟨n, rfl⟩ := Int.eq_ofNat_of_zero_le h5
              rw [Int.toNat_natCast]
              exact join_calls a0 a1 n w h1 h2 h3 h4 (by omega)
            · cases h
          · cases h
        · cases h
      · cases h
    · cases h
  · cases h

end Go.Proofs.Ytdomngcedflapaa.PFrame

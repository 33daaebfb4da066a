/- The walk of FrameBursts: it answers true, by the plain law of bursts. -/
import Derived.Test.YtdomngcedflapaaCrcF
import Derived.Test.YtdomngcedflapaaMat
import Derived.Test.YtdomngcedflapaaBurstP
import Derived.StillTailTactics
namespace Go.Proofs.YtdomngcedflapaaW.Burst
open Go.RowKit Go.Proofs.Ytdomngcedflapaa Go.Proofs.Ytdomngcedflapaa.PFrame Go.Proofs.YtdomngcedflapaaW.PrintWords Go.Proofs.YtdomngcedflapaaW.PrintLast Go.Proofs.YtdomngcedflapaaW.PrintMore
open Go.Proofs.YtdomngcedflapaaW.Mine Go.Proofs.YtdomngcedflapaaW.Crc
open Go.Proofs.YtdomngcedflapaaW.Mat (below_drawn)

theorem awake_calls (w : World) : Calls Try.prog 21 #[] w fun e w' => e = .returned (.bool true) ∧ Drawn0 w w' := by
  obtain ⟨k, hk⟩ := Ev.rounds awake_eq
  exact barquelaw02_awake.calls k true w hk

theorem sum_calls (s : ByteArray) (hs : s.size ≤ 140737488355328) (w : World) : Calls Try.prog 19 #[.string s] w fun e w' => e = .returned (.int .i64 (((addS 0#32 (by_ s)).toNat : Nat) : Int)) ∧ Drawn0 w w' := by
  obtain ⟨k, hk⟩ := Ev.rounds (frame_Sum_eq s hs)
  exact frame_Sum.calls k s _ w hk

theorem shift_shr64 (x : Int) (j : Nat) (hj : j < 64) : Op.shift .shr .i64 x .i64 (j : Int) = pure (.int .i64 (x / 2 ^ j)) := by
  unfold Op.shift
  have e : min (j : Int).toNat (IntKind.bits .i64) = j := by
    rw [Int.toNat_natCast]
    exact Nat.min_eq_left (by have : IntKind.bits .i64 = 64 := rfl; omega)
  rw [if_neg (by omega), e]
  simp only [Int.fdiv_eq_ediv_of_nonneg _ (show (0 : Int) ≤ 2 ^ j from Int.pow_nonneg (by decide))]

/-- A block holds the bytes of a conversion. -/
structure BytesAt (w : World) (g : Nat) (l : List UInt8) : Prop where
  cell : ∀ i : Nat, i < l.length → w.cell? ⟨g, i, none⟩ = some (.int .u8 (((l.getD i 0).toNat : Nat) : Int))
  loose : ∀ i : Nat, i < l.length → w.frozen? ⟨g, i, none⟩ = false

theorem bytes_fresh (w : World) (s : ByteArray) : BytesAt (Lib.bytesWorld w 5 s) w.heap.size (by_ s) := by
  have hl := by_length s
  refine ⟨fun i hi => ?_, fun i hi => ?_⟩
  · rw [Lib.bytesWorld_cell w 5 s i (by omega)]
  · have hb := Lib.bytesWorld_at_new w 5 s
    have hz : s.size ≤ (Lib.bytesCells w 5 s).size := by
      simp [Lib.bytesCells]
    simp only [World.frozen?, hb]
    simp
    omega

theorem bits_xor_u8 (x y : UInt8) : Go.bits .xor .u8 ((x.toNat : Nat) : Int) ((y.toNat : Nat) : Int) = (((x ^^^ y).toNat : Nat) : Int) := by
  have hx := x.toNat_lt
  have hy := y.toNat_lt
  have e : ∀ z : Nat, BitVec.ofInt IntKind.u8.bits (z : Int) = BitVec.ofNat 8 z := fun z => BitVec.ofInt_natCast ..
  have h : Go.bits .xor .u8 ((x.toNat : Nat) : Int) ((y.toNat : Nat) : Int) = IntKind.u8.wrap (((BitVec.ofInt IntKind.u8.bits ((x.toNat : Nat) : Int)) ^^^ (BitVec.ofInt IntKind.u8.bits ((y.toNat : Nat) : Int))).toNat : Int) := rfl
  rw [h, e, e, IntKind.wrap_u8]
  have h3 : (BitVec.ofNat 8 x.toNat ^^^ BitVec.ofNat 8 y.toNat).toNat = (x ^^^ y).toNat := by
    rw [BitVec.toNat_xor, BitVec.toNat_ofNat, BitVec.toNat_ofNat, Nat.mod_eq_of_lt (by omega), Nat.mod_eq_of_lt (by omega), UInt8.toNat_xor]
  have h4 := (x ^^^ y).toNat_lt
  have h5 : ((BitVec.ofNat 8 x.toNat ^^^ BitVec.ofNat 8 y.toNat).toNat : Int) = (((x ^^^ y).toNat : Nat) : Int) := by rw [h3]
  first
    | (rw [h5]; omega)
    | (erw [h5]; omega)

theorem xor_step (l : List UInt8) (m : Nat) (hm : m / 8 < l.length) :
    Go.bits .xor .u8 (((l[m / 8]'hm).toNat : Nat) : Int) (2 ^ min (m % 8) 8 % 256) = (((l.getD (m / 8) 0 ^^^ UInt8.ofNat (2 ^ (m % 8))).toNat : Nat) : Int) := by
  have e1 : l.getD (m / 8) 0 = l[m / 8]'hm := by simp [List.getD, hm]
  have e2 : min (m % 8) 8 = m % 8 := Nat.min_eq_left (by omega)
  have e3 : ((2 : Int) ^ (m % 8) % 256) = (((UInt8.ofNat (2 ^ (m % 8))).toNat : Nat) : Int) := by
    rw [UInt8.toNat_ofNat']
    simp
  rw [e1, e2, e3, bits_xor_u8]

theorem bit_test (P j : Nat) (b : Bool) (h : P.testBit j = b) : (Int.tmod ((P : Int) / 2 ^ j) 2 == 0) = !b := by
  have e : ((P : Int) / 2 ^ j) = ((P / 2 ^ j : Nat) : Int) := by simp
  rw [e, tmod_nn _ _ (Int.natCast_nonneg _), ← h, Nat.testBit_eq_decide_div_mod_eq]
  rcases Nat.mod_two_eq_zero_or_one (P / 2 ^ j) with h0 | h0
  · have h1 : (((P / 2 ^ j : Nat) : Int)) % 2 = 0 := by omega
    rw [h0, h1]
    rfl
  · have h1 : (((P / 2 ^ j : Nat) : Int)) % 2 = 1 := by omega
    rw [h0, h1]
    rfl

theorem BytesAt.lt {w : World} {g : Nat} {l : List UInt8} (h : BytesAt w g l) (h0 : 0 < l.length) : g < w.heap.size := World.block_lt_of_cell? w _ (h.cell 0 h0)

theorem BytesAt.drew {w : World} {g : Nat} {l : List UInt8} (h : BytesAt w g l) : BytesAt w.drew g l :=
  ⟨fun i hi => by have e := (Below.drew (Below.refl (g + 1) w)).cell (p := ⟨g, i, none⟩) (Nat.lt_succ_self g); rw [e]; exact h.cell i hi,
   fun i hi => by have e := (Below.drew (Below.refl (g + 1) w)).frozen (p := ⟨g, i, none⟩) (Nat.lt_succ_self g); rw [e]; exact h.loose i hi⟩

theorem BytesAt.flip {w : World} {g : Nat} {l : List UInt8} (h : BytesAt w g l) (m : Nat) (v : Int)
    (hv : v = (((l.getD (m / 8) 0 ^^^ UInt8.ofNat (2 ^ (m % 8))).toNat : Nat) : Int)) : BytesAt (w.setCell ⟨g, m / 8, none⟩ (.int .u8 v)) g (flip l m) := by
  subst hv
  refine ⟨fun i hi => ?_, fun i hi => ?_⟩
  · rw [flip_length] at hi
    by_cases e : i = m / 8
    · subst e
      rw [World.cell?_setCell_same w _ _ (h.cell _ hi)]
      simp [Burst.flip, List.getD, hi]
    · rw [World.cell?_setCell_other w _ _ _ (fun hc => e (by simpa using (congrArg Addr.off hc).symm)), h.cell i hi]
      simp only [Burst.flip, List.getD_eq_getElem?_getD]
      rw [List.getElem?_set_ne (fun hc => e hc.symm)]
  · rw [flip_length] at hi
    rw [World.frozen?_setCell]
    exact h.loose i hi

theorem below_bytes {B : Nat} {w0 w : World} (h : Below B w0 w) (hB : B ≤ w.heap.size) (s : ByteArray) : Below B w0 (Lib.bytesWorld w 5 s) :=
  h.trans ⟨rfl, rfl, rfl, by rw [Lib.bytesWorld_size]; omega, fun k hk => Lib.bytesWorld_at_old w 5 s k (by omega)⟩

set_option maxHeartbeats 1000000 in
set_option maxRecDepth 100000 in
theorem bursts_calls (a0 : ByteArray) (a1 a2 : Int) (w : World) :
    Calls Try.prog 5 #[.string a0, .int .i64 a1, .int .i64 a2] w fun e w' => e = .returned (.bool true) ∧ Below w.heap.size w w' := by
  have HB := Aside0.mk (Below.refl w.heap.size w)
  go_enter Try.func5, Try.ntmps5
  go_upto_if 12 with (fail)
  go_cut [0] (fun v0 wc => ∃ (x0_1 : ByteArray), v0 = .string x0_1 ∧ Aside0 (x0_1.size ≤ 2048) ∧ Aside0 (Below w.heap.size w wc))
  case first =>
    by_cases c3 : (a0.size : Int) > 2048
    · have c3b0 : decide (2048 < (a0.size : Int)) = true := decide_eq_true c3
      have c3b1 : decide (2048 < a0.size) = true := decide_eq_true (by omega)
      have c5b0 : (2048 ≤ (a0.size : Int)) = True := eq_true (by omega)
      (first | rw [c3b0] | (simp only [i64_w, i32_w]; rw [c3b0]) | skip)
      go_wp2
      go_meet
      case rel => exact ⟨a0.extract 0 2048, (by first | rfl | (simp; done) | (simp [*]; done)), ⟨by rw [ByteArray.size_extract]; omega⟩, HB⟩
    · have c3b0 : decide (2048 < (a0.size : Int)) = false := decide_eq_false c3
      have c3b1 : decide (2048 < a0.size) = false := decide_eq_false (by omega)
      (first | rw [c3b0] | (simp only [i64_w, i32_w]; rw [c3b0]) | skip)
      go_wp2
      go_meet
      case rel => exact ⟨a0, rfl, ⟨by omega⟩, HB⟩
  case rest =>
    clear HB
    obtain ⟨s, rfl, HS, HB⟩ := hcut
    by_cases hg : a2 < 1 ∨ 4294967295 < a2 ∨ a1 < 0 ∨ 8 * (s.size : Int) < a1
    · by_cases h1 : a2 < 1
      · have d1 : decide (a2 < 1) = true := decide_eq_true h1
        clear hg h1
        go_wp2_with (go_at_call 21; refine (awake_calls _).mono ?_; rintro e w3 ⟨rfl, hd⟩; have n1_ := Aside0.mk (below_drawn HB.out hd); clear HB hd; have HB := n1_; clear n1_)
        go_ret
        exact ⟨rfl, HB.out⟩
      have d1 : decide (a2 < 1) = false := decide_eq_false h1
      by_cases h2 : 4294967295 < a2
      · have d2 : decide (4294967295 < a2) = true := decide_eq_true h2
        clear hg h1 h2
        go_wp2_with (go_at_call 21; refine (awake_calls _).mono ?_; rintro e w3 ⟨rfl, hd⟩; have n1_ := Aside0.mk (below_drawn HB.out hd); clear HB hd; have HB := n1_; clear n1_)
        go_ret
        exact ⟨rfl, HB.out⟩
      have d2 : decide (4294967295 < a2) = false := decide_eq_false h2
      by_cases h3 : a1 < 0
      · have d3 : decide (a1 < 0) = true := decide_eq_true h3
        clear hg h1 h2 h3
        go_wp2_with (go_at_call 21; refine (awake_calls _).mono ?_; rintro e w3 ⟨rfl, hd⟩; have n1_ := Aside0.mk (below_drawn HB.out hd); clear HB hd; have HB := n1_; clear n1_)
        go_ret
        exact ⟨rfl, HB.out⟩
      have d3 : decide (a1 < 0) = false := decide_eq_false h3
      have d4 : decide (8 * (s.size : Int) < a1) = true := decide_eq_true (by omega)
      have hS := HS.out
      clear hg h1 h2 h3
      go_wp2_with (go_at_call 21; refine (awake_calls _).mono ?_; rintro e w3 ⟨rfl, hd⟩; have n1_ := Aside0.mk (below_drawn HB.out hd); clear HB hd; have HB := n1_; clear n1_)
      go_ret
      exact ⟨rfl, HB.out⟩
    · obtain ⟨A, rfl⟩ := Int.eq_ofNat_of_zero_le (show 0 ≤ a1 by omega)
      obtain ⟨P, rfl⟩ := Int.eq_ofNat_of_zero_le (show 0 ≤ a2 by omega)
      have hP0 : 1 ≤ P := by omega
      have hP1 : P ≤ 4294967295 := by omega
      have hA : A ≤ 8 * s.size := by omega
      have hS := HS.out
      have d1 : decide ((P : Int) < 1) = false := decide_eq_false (by omega)
      have d2 : decide (4294967295 < (P : Int)) = false := decide_eq_false (by omega)
      have d3 : decide ((A : Int) < 0) = false := decide_eq_false (by omega)
      have d4 : decide (8 * (s.size : Int) < (A : Int)) = false := decide_eq_false (by omega)
      clear hg
      have hconv := fun (W : World) => Lib.run_convert_string_bytes (P := Try.prog) W 9 27 5 s Try.underlying9 Try.underlying27 Try.underlying5
      go_wp2
      go_loopg [8] 32 (fun kq v8 w' => ∃ j : Nat, v8 = .int .i64 (j : Int) ∧ Aside0 (j + kq = 32) ∧ Aside0 (∀ i, i < j → P.testBit i = true → (A + i) / 8 < s.size) ∧ Aside0 (BytesAt w' wc.heap.size (burst (by_ s) A P j)) ∧ Aside0 (Below w.heap.size w w'))
      case atStart => exact ⟨0, rfl, ⟨rfl⟩, ⟨fun i hi _ => absurd hi (by omega)⟩, ⟨bytes_fresh wc s⟩, ⟨below_bytes HB.out HB.out.size s⟩⟩
      case round =>
        have HG := Aside0.mk HB.out.size
        clear HB
        obtain ⟨j, rfl, HK, HIN, HY, HB⟩ := hrel
        have hbl := burst_length (by_ s) A P j
        have hsl := by_length s
        by_cases hj : j < 32
        · obtain ⟨k1, rfl⟩ : ∃ k1, gk = k1 + 1 := ⟨gk - 1, by have := HK.out; omega⟩
          have c0 : decide ((j : Int) < 32) = true := decide_eq_true (by omega)
          have hsh := shift_shr64 (P : Int) j (by omega)
          by_cases hb : P.testBit j = true
          · have t0 : (Int.tmod ((P : Int) / 2 ^ j) 2 == 0) = false := bit_test P j true hb
            by_cases hin : (A + j) / 8 < s.size
            · have t1 : ((A : Int) + (j : Int)) / 8 < (s.size : Int) := by omega
              have t2 : decide ((s.size : Int) ≤ ((A : Int) + (j : Int)) / 8) = false := decide_eq_false (by omega)
              have t3 : (((A : Int) + (j : Int)) / 8 < (s.size : Int)) = True := eq_true t1
              have t4 : (0 ≤ ((A : Int) + (j : Int)) / 8) = True := eq_true (by omega)
              obtain ⟨q, hq⟩ : ∃ q, (A + j) / 8 = q := ⟨_, rfl⟩
              obtain ⟨r, hr⟩ : ∃ r, (A + j) % 8 = r := ⟨_, rfl⟩
              have hc := HY.out.cell q (by omega)
              have hf := HY.out.loose q (by omega)
              have q1 : IntKind.i64.wrap (Int.tdiv ((A : Int) + (j : Int)) 8) = (q : Int) := by rw [IntKind.wrap_i64, tdiv_nn _ _ (by omega)]; omega
              have r1 : Int.tmod ((A : Int) + (j : Int)) 8 = (r : Int) := by rw [tmod_nn _ _ (by omega)]; omega
              have q2 : ((q : Int) < (s.size : Int)) = True := eq_true (by omega)
              have q3 : (q < s.size) = True := eq_true (by omega)
              have q4 : ((s.size : Int) ≤ (q : Int)) = False := eq_false (by omega)
              have q5 : (s.size ≤ q) = False := eq_false (by omega)
              have HQ := Aside0.mk hq
              have HR := Aside0.mk hr
              clear hq hr
              go_wp2
              go_still_tail 13, (by kernel_rfl)
              repeat still_step
              change wpList _ _ _ _ _ wr.drew
              go_wp2
              go_roundg k1
              case measure => omega
              case rel =>
                have hq := HQ.out
                have hr := HR.out
                have hbu : burst (by_ s) A P (j + 1) = flip (burst (by_ s) A P j) (A + j) := by rw [burst, if_pos hb]
                refine ⟨j + 1, rfl, ⟨by have := HK.out; omega⟩, ⟨fun i hi hbi => ?_⟩, ⟨?_⟩, ⟨?_⟩⟩
                · by_cases e : i = j
                  · subst e; omega
                  · exact HIN.out i (by omega) hbi
                · rw [hbu]
                  subst hq
                  refine (HY.out.flip (A + j) _ ?_).drew
                  rw [← hr]
                  exact xor_step _ _ _
                · exact (HB.out.setCell (p := ⟨wc.heap.size, q, none⟩) HG.out _).drew
            · have t2 : decide ((s.size : Int) ≤ ((A : Int) + (j : Int)) / 8) = true := decide_eq_true (by omega)
              have t1 : (((A : Int) + (j : Int)) / 8 < (s.size : Int)) = False := eq_false (by omega)
              have t5 : ((s.size : Int) ≤ ((A : Int) + (j : Int)) / 8) = True := eq_true (by omega)
              go_wp2_with (go_at_call 21; refine (awake_calls _).mono ?_; rintro e w3 ⟨rfl, hd⟩; have n1_ := Aside0.mk (below_drawn HB.out hd); clear HB hd; have HB := n1_; clear n1_)
              go_ret
              exact ⟨rfl, HB.out⟩
          · have t0 : (Int.tmod ((P : Int) / 2 ^ j) 2 == 0) = true := bit_test P j false (by simpa using hb)
            have hbu : burst (by_ s) A P (j + 1) = burst (by_ s) A P j := by rw [burst, if_neg hb]
            go_wp2
            go_roundg k1
            case measure => omega
            case rel =>
              refine ⟨j + 1, rfl, ⟨by have := HK.out; omega⟩, ⟨fun i hi hbi => ?_⟩, ⟨by rw [hbu]; exact HY.out⟩, HB⟩
              by_cases e : i = j
              · subst e; exact absurd hbi hb
              · exact HIN.out i (by omega) hbi
        · obtain rfl : j = 32 := by have := HK.out; omega
          have c0 : decide (((32 : Nat) : Int) < 32) = false := by decide
          have hsum := burst_sum (by_ s) A P (by omega) hP0 (by omega) (fun i hi hb => by have := HIN.out i hi hb; omega)
          have hstr := fun W (hW : BytesAt W wc.heap.size (burst (by_ s) A P 32)) => run_convert_bytes_arg (P := Try.prog) W 27 5 Try.underlying27 Try.underlying5 wc.heap.size 0 s.size (grownCap wc s.size 0 5) ((burst (by_ s) A P 32).map fun c => ((c.toNat : Nat) : Int)) (by simp; omega) (fun i hi => by
            rw [Nat.zero_add, hW.cell i (by omega)]
            have hi2 : i < (burst (by_ s) A P 32).length := by omega
            simp [List.getD, hi2]) 9 Try.underlying9
          have hs1 := hstr wr HY.out
          clear hstr hconv
          obtain ⟨z, hz⟩ : ∃ z, strOfNums ((burst (by_ s) A P 32).map fun c => ((c.toNat : Nat) : Int)) = z := ⟨_, rfl⟩
          rw [hz] at hs1
          have hzb : by_ z = burst (by_ s) A P 32 := by
            rw [← hz, by_, strOfNums_data, List.map_map]
            have e : ((fun n : Int => UInt8.ofNat n.toNat) ∘ fun c : UInt8 => ((c.toNat : Nat) : Int)) = id := by
              funext c
              simp
            rw [e, List.map_id]
          have hzs : z.size ≤ 140737488355328 := by rw [← by_length, hzb]; omega
          have hss : s.size ≤ 140737488355328 := by omega
          rw [← hzb] at hsum
          have hne : ((((addS 0#32 (by_ z)).toNat : Nat) : Int) != (((addS 0#32 (by_ s)).toNat : Nat) : Int)) = true := by
            refine bne_iff_ne.mpr (fun h => hsum ?_)
            exact BitVec.eq_of_toNat_eq (by omega)
          clear hsum hz hzb HIN HY hbl
          go_wp2_with (first | (go_at_call 19; refine (sum_calls _ (by assumption) _).mono ?_; rintro e w3 ⟨rfl, hd⟩; have n1_ := Aside0.mk (below_drawn HB.out hd); clear HB hd; have HB := n1_; clear n1_) | (go_at_call 21; refine (awake_calls _).mono ?_; rintro e w3 ⟨rfl, hd⟩; have n1_ := Aside0.mk (below_drawn HB.out hd); clear HB hd; have HB := n1_; clear n1_))
          go_ret
          exact ⟨rfl, HB.out⟩

end Go.Proofs.YtdomngcedflapaaW.Burst

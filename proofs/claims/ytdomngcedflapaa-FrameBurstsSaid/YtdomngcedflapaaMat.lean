/- The walks of the program's maps of 32 bits: times, twice, Join. -/
import Derived.Test.YtdomngcedflapaaPFramex1
import Derived.Test.YtdomngcedflapaaCrcF
import Derived.StillTailTactics
namespace Go.Proofs.YtdomngcedflapaaW.Mat
open Go.RowKit Go.Proofs.Ytdomngcedflapaa Go.Proofs.Ytdomngcedflapaa.PFrame Go.Proofs.YtdomngcedflapaaW.PrintWords Go.Proofs.YtdomngcedflapaaW.PrintLast Go.Proofs.YtdomngcedflapaaW.PrintMore
open Go.Proofs.YtdomngcedflapaaW.Mine Go.Proofs.YtdomngcedflapaaW.Crc
attribute [local go_sem high] unary_xor_u32

/-- What a map makes of bits, by the first so many of its rows. -/
def timesP (M : Nat → Int) (x : Int) : Nat → Int
  | 0 => 0
  | j + 1 => if Go.bits .and .u32 (x / 2 ^ j) 1 = 1 then Go.bits .xor .u32 (timesP M x j) (M j) else timesP M x j

theorem shift_shr (x : Int) (j : Nat) (hj : j < 32) : Op.shift .shr .u32 x .i64 (j : Int) = pure (.int .u32 (x / 2 ^ j)) := by
  unfold Op.shift
  have e : min (j : Int).toNat (IntKind.bits .u32) = j := by
    rw [Int.toNat_natCast]
    exact Nat.min_eq_left (by have : IntKind.bits .u32 = 32 := rfl; omega)
  rw [if_neg (by omega), e]
  simp only [Int.fdiv_eq_ediv_of_nonneg _ (show (0 : Int) ≤ 2 ^ j from Int.pow_nonneg (by decide))]

set_option maxHeartbeats 4000000 in
set_option maxRecDepth 100000 in
/-- What times answers. -/
theorem times_calls (a : Nat) (M : Nat → Int) (x : Int) (w : World) (hm : ∀ i : Nat, i < 32 → w.cell? ⟨a, i, none⟩ = some (.int .u32 (M i))) :
    Calls Try.prog 56 #[.pointer (some ⟨a, 0, none⟩), .int .u32 x] w fun e w' => e = .returned (.int .u32 (timesP M x 32)) ∧ Drawn0 w w' := by
  have HM := Aside0.mk hm
  clear hm
  go_enter Try.func56, Try.ntmps56
  go_wp2
  go_loopg [5, 7] 32 (fun kq v5 v7 w' => ∃ j : Nat, v5 = .int .u32 (timesP M x j) ∧ v7 = .int .i64 (j : Int) ∧ Aside0 (j + kq = 32) ∧ Drawn0 w w')
  case atStart => exact ⟨0, rfl, rfl, ⟨rfl⟩, Drawn0.refl _⟩
  case round =>
    obtain ⟨j, rfl, rfl, HK, ⟨m1, rfl⟩⟩ := hrel
    by_cases hj : j < 32
    · obtain ⟨k1, rfl⟩ : ∃ k1, gk = k1 + 1 := ⟨gk - 1, by have := HK.out; omega⟩
      have c0 : decide ((j : Int) < 32) = true := decide_eq_true (by omega)
      have hsh := shift_shr x j hj
      by_cases hb : Go.bits .and .u32 (x / 2 ^ j) 1 = 1
      · have hc := HM.out j hj
        have hb0 : (Go.bits .and .u32 (x / 2 ^ j) 1 == 1) = true := beq_iff_eq.mpr hb
        have hT : timesP M x (j + 1) = Go.bits .xor .u32 (timesP M x j) (M j) := by rw [timesP, if_pos hb]
        have HT := Aside0.mk hT
        clear hb hT
        go_wp2
        go_roundg k1
        case measure => omega
        case rel => exact ⟨j + 1, by rw [HT.out], rfl, ⟨by have := HK.out; omega⟩, by repeat (first | exact Drawn0.refl _ | apply Drawn0.step)⟩
      · have hb0 : (Go.bits .and .u32 (x / 2 ^ j) 1 == 1) = false := beq_eq_false_iff_ne.mpr hb
        have hT : timesP M x (j + 1) = timesP M x j := by rw [timesP, if_neg hb]
        have HT := Aside0.mk hT
        clear hb hT
        go_wp2
        go_roundg k1
        case measure => omega
        case rel => exact ⟨j + 1, by rw [HT.out], rfl, ⟨by have := HK.out; omega⟩, by repeat (first | exact Drawn0.refl _ | apply Drawn0.step)⟩
    · obtain rfl : j = 32 := by have := HK.out; omega
      have c0 : decide (((32 : Nat) : Int) < 32) = false := by decide
      go_wp2
      go_ret
      exact ⟨rfl, by repeat (first | exact Drawn0.refl _ | apply Drawn0.step)⟩

/-- A block holds a map. -/
structure MatAt (w : World) (a : Nat) (M : Nat → Int) : Prop where
  cell : ∀ i : Nat, i < 32 → w.cell? ⟨a, i, none⟩ = some (.int .u32 (M i))
  loose : ∀ i : Nat, i < 32 → w.frozen? ⟨a, i, none⟩ = false

theorem MatAt.lt {w : World} {a : Nat} {M : Nat → Int} (h : MatAt w a M) : a < w.heap.size := World.block_lt_of_cell? w _ (h.cell 0 (by decide))

theorem MatAt.below {w w' : World} {a B : Nat} {M : Nat → Int} (h : MatAt w a M) (hb : Below B w w') (ha : a < B) : MatAt w' a M :=
  ⟨fun i hi => (hb.cell (p := ⟨a, i, none⟩) ha).trans (h.cell i hi), fun i hi => (hb.frozen (p := ⟨a, i, none⟩) ha).trans (h.loose i hi)⟩

theorem MatAt.put {w : World} {a : Nat} {M : Nat → Int} (h : MatAt w a M) (j : Nat) (hj : j < 32) (v : Int) :
    MatAt (w.setCell ⟨a, j, none⟩ (.int .u32 v)) a (fun i => if i = j then v else M i) := by
  refine ⟨fun i hi => ?_, fun i hi => ?_⟩
  · by_cases e : i = j
    · subst e
      rw [World.cell?_setCell_same w _ _ (h.cell i hi), if_pos rfl]
    · rw [World.cell?_setCell_other w _ _ _ (fun hc => e (by simpa using (congrArg Addr.off hc).symm)), if_neg e]
      exact h.cell i hi
  · rw [World.frozen?_setCell]
    exact h.loose i hi

theorem MatAt.congr {w : World} {a : Nat} {M N : Nat → Int} (h : MatAt w a M) (e : ∀ i, i < 32 → M i = N i) : MatAt w a N :=
  ⟨fun i hi => by rw [← e i hi]; exact h.cell i hi, h.loose⟩

theorem MatAt.drawn {w w' : World} {a : Nat} {M : Nat → Int} (h : MatAt w a M) (hd : Drawn0 w w') : MatAt w' a M := by
  obtain ⟨m, rfl⟩ := hd
  exact h.below (B := a + 1) (pw_below_drewN (Below.refl _ _) _) (Nat.lt_succ_self a)

theorem below_drawn {B : Nat} {w w1 w2 : World} (h : Below B w w1) (hd : Drawn0 w1 w2) : Below B w w2 := by
  obtain ⟨m, rfl⟩ := hd
  exact pw_below_drewN h _

theorem MatAt.fresh (w : World) (c : Array Value) (T : TypeId) (hc : c = Array.replicate 32 (.int .u32 0)) : MatAt (w.alloc (.cells c T)) w.heap.size (fun _ => 0) := by
  subst hc
  refine ⟨fun i hi => ?_, fun i _ => ?_⟩
  · rw [World.cell?_alloc_new, Array.getElem?_replicate, if_pos hi]
  · rw [World.frozen?_alloc_new]

set_option maxHeartbeats 4000000 in
set_option maxRecDepth 100000 in
/-- What twice answers: a new block that holds the map behind itself. -/
theorem twice_calls (a : Nat) (M : Nat → Int) (w : World) (hm : MatAt w a M) :
    Calls Try.prog 55 #[.pointer (some ⟨a, 0, none⟩)] w fun e w' => ∃ b : Nat, e = .returned (.pointer (some ⟨b, 0, none⟩)) ∧ MatAt w' b (fun i => timesP M (M i) 32) ∧ w.heap.size ≤ b ∧ Below w.heap.size w w' := by
  have HM := Aside0.mk hm
  clear hm
  go_enter Try.func55, Try.ntmps55
  go_wp2
  go_loopg [5] 32 (fun kq v5 w' => ∃ j : Nat, v5 = .int .i64 (j : Int) ∧ Aside0 (j + kq = 32) ∧ Aside0 (MatAt w' w.heap.size (fun i => if i < j then timesP M (M i) 32 else 0)) ∧ Aside0 (Below w.heap.size w w'))
  case atStart =>
    exact ⟨0, rfl, ⟨rfl⟩, ⟨(MatAt.fresh w _ 87 rfl).congr (fun i _ => by rw [if_neg (by omega)])⟩, ⟨(Below.refl _ _).alloc (Nat.le_refl _) _⟩⟩
  case round =>
    obtain ⟨j, rfl, HK, HR, HB⟩ := hrel
    by_cases hj : j < 32
    · obtain ⟨k1, rfl⟩ : ∃ k1, gk = k1 + 1 := ⟨gk - 1, by have := HK.out; omega⟩
      have c0 : decide ((j : Int) < 32) = true := decide_eq_true (by omega)
      have HA := Aside0.mk (HM.out.below HB.out HM.out.lt)
      have hc := HA.out.cell j hj
      go_wp2_with (go_at_call 56; refine (times_calls a M (M j) _ HA.out.cell).mono ?_; rintro e w3 ⟨rfl, hd⟩; have n0_ := Aside0.mk (HR.out.drawn hd); have n1_ := Aside0.mk (below_drawn HB.out hd); clear HR HB hd; have HR := n0_; have HB := n1_; clear n0_ n1_; have hf := HR.out.loose j hj; have hcc := HR.out.cell j hj)
      go_roundg k1
      case measure => omega
      case rel =>
        refine ⟨j + 1, rfl, ⟨by have := HK.out; omega⟩, ⟨(HR.out.put j hj _).congr (fun i hi => ?_)⟩, ⟨HB.out.setCell (p := ⟨w.heap.size, j, none⟩) (Nat.le_refl _) _⟩⟩
        by_cases e : i = j
        · subst e
          rw [if_pos rfl, if_pos (by omega)]
        · rw [if_neg e]
          by_cases h2 : i < j
          · rw [if_pos h2, if_pos (by omega)]
          · rw [if_neg h2, if_neg (by omega)]
    · obtain rfl : j = 32 := by have := HK.out; omega
      have c0 : decide (((32 : Nat) : Int) < 32) = false := by decide
      go_wp2
      go_ret
      exact ⟨_, rfl, HR.out.congr (fun i hi => if_pos hi), Nat.le_refl _, HB.out⟩

/-! ### what the maps are -/

/-- The map of so many steps. -/
def mapOf (e : Nat) (i : Nat) : Int := (((turns e (1#32 <<< i)).toNat : Nat) : Int)

/-- A register's lowest bits. -/
def lowB (x : BitVec 32) : Nat → BitVec 32
  | 0 => 0#32
  | j + 1 => if x.getLsbD j = true then lowB x j ^^^ (1#32 <<< j) else lowB x j

theorem lowB_get (x : BitVec 32) (j : Nat) (hj : j ≤ 32) : ∀ i, (lowB x j).getLsbD i = (decide (i < j) && x.getLsbD i) := by
  induction j with
  | zero => intro i; simp [lowB]
  | succ j ih =>
    intro i
    have ih := ih (by omega)
    unfold lowB
    by_cases hx : x.getLsbD j = true
    · rw [if_pos hx, BitVec.getLsbD_xor, ih]
      by_cases h1 : i = j
      · subst h1
        simp [hx]
        omega
      · have h2 : (1#32 <<< j).getLsbD i = false := by
          rw [BitVec.getLsbD_shiftLeft, BitVec.getLsbD_one]
          by_cases h3 : i < j
          · simp [h3]
          · have : ¬ (i - j = 0) := by omega
            simp [this]
        have h4 : decide (i < j + 1) = decide (i < j) := decide_eq_decide.2 (by omega)
        rw [h2, h4, Bool.xor_false]
    · rw [if_neg hx, ih]
      by_cases h1 : i = j
      · subst h1
        simp [hx]
      · have h4 : decide (i < j + 1) = decide (i < j) := decide_eq_decide.2 (by omega)
        rw [h4]

theorem lowB_all (x : BitVec 32) : lowB x 32 = x := by
  apply BitVec.eq_of_getLsbD_eq
  intro i hi
  rw [lowB_get x 32 (Nat.le_refl _), decide_eq_true hi, Bool.true_and]

theorem shrj_toNat (x : BitVec 32) (j : Nat) : ((x >>> j).toNat : Int) = (x.toNat : Int) / 2 ^ j := by
  simp [BitVec.toNat_ushiftRight, Nat.shiftRight_eq_div_pow]

theorem bit_at (x : BitVec 32) (j : Nat) : Go.bits .and .u32 ((x.toNat : Int) / 2 ^ j) 1 = if x.getLsbD j = true then 1 else 0 := by
  rw [← shrj_toNat, bits_and1_u32, BitVec.getLsbD_ushiftRight, Nat.add_zero]

theorem times_map (e : Nat) (x : BitVec 32) (j : Nat) : timesP (mapOf e) (x.toNat : Int) j = (((turns e (lowB x j)).toNat : Nat) : Int) := by
  induction j with
  | zero => rw [timesP, lowB, turns_zero]; rfl
  | succ j ih =>
    unfold timesP lowB
    rw [bit_at, ih]
    by_cases hx : x.getLsbD j = true
    · rw [if_pos hx, if_pos rfl, if_pos hx, mapOf, bits_xor_u32, turns_xor]
    · rw [if_neg hx, if_neg (by decide), if_neg hx]

theorem times_map_all (e : Nat) (x : BitVec 32) : timesP (mapOf e) (x.toNat : Int) 32 = (((turns e x).toNat : Nat) : Int) := by
  rw [times_map, lowB_all]

theorem twice_map (e i : Nat) : timesP (mapOf e) (mapOf e i) 32 = mapOf (e + e) i := by
  have h := times_map_all e (turns e (1#32 <<< i))
  rw [mapOf, h, mapOf, turns_add]

/-- One step of the powers. -/
theorem turns_half (e n : Nat) (x : BitVec 32) : turns (e * n) x = turns ((e + e) * (n / 2)) (if n % 2 = 1 then turns e x else x) := by
  have h := Nat.div_add_mod n 2
  by_cases h2 : n % 2 = 1
  · rw [if_pos h2, ← turns_add]
    congr 1
    have : e * n = e * (2 * (n / 2) + 1) := by rw [← h2, h]
    rw [this, Nat.mul_add, Nat.mul_one, ← Nat.mul_assoc, Nat.add_mul, Nat.mul_comm e 2, Nat.two_mul, Nat.add_mul]
    omega
  · rw [if_neg h2]
    congr 1
    have h3 : n % 2 = 0 := by omega
    have : e * n = e * (2 * (n / 2)) := by rw [h3, Nat.add_zero] at h; rw [h]
    rw [this, ← Nat.mul_assoc, Nat.mul_comm e 2, Nat.two_mul]

end Go.Proofs.YtdomngcedflapaaW.Mat

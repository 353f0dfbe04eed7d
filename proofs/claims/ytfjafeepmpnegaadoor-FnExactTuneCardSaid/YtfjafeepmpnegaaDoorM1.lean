/- Floats up to NaN: how the program's small functions reckon. No condition. -/
import Derived.Test.YtfjafeepmpnegaaDoorFq
namespace Go.Proofs.YtfjafeepmpnegaaDoor
set_option linter.unusedVariables false
set_option linter.unusedSimpArgs false
abbrev F32 := Option Nat
def flt (x y : F32) : Bool := ford .f32 x y == some .lt
def fle (x y : F32) : Bool := ford .f32 x y == some .lt || ford .f32 x y == some .eq
def fgt (x y : F32) : Bool := ford .f32 x y == some .gt
def fge (x y : F32) : Bool := ford .f32 x y == some .gt || ford .f32 x y == some .eq
def feq (x y : F32) : Bool := ford .f32 x y == some .eq
def fadd (x y : F32) : F32 := fop .add .f32 x y
def fsub (x y : F32) : F32 := fop .sub .f32 x y
def fmul (x y : F32) : F32 := fop .mul .f32 x y
def fdiv (x y : F32) : F32 := fop .quo .f32 x y
def fneg (x : F32) : F32 := x.map (Op.negFloat .f32)
/-- A single's constant. -/
def fc (b : Nat) : F32 := fN .f32 b
def amountN (x : F32) : F32 := if flt x (fc 0) then fneg x else x
def timesRe (a b x y : F32) : F32 := fsub (fmul a x) (fmul b y)
def timesIm (a b x y : F32) : F32 := fadd (fmul a y) (fmul b x)
def powerN (x y : F32) : F32 := fadd (fmul x x) (fmul y y)
/-- 16, 64, 256, 1024 -/
def chOkN (A O x y : F32) : Bool := fgt A (fc 0) && (fle A (fc 1098907648) && (fle (amountN O) (fc 1115684864) && (fle (amountN x) (fc 1098907648) && fle (amountN y) (fc 1098907648))))
def fineN (x : F32) : Bool := fge x (fc 3279945728) && fle x (fc 1132462080)
theorem o_lt (x y : Nat) : (FloatKind.f32.format.order x y == some .lt) = flt (fN .f32 x) (fN .f32 y) := by rw [order_ford]; rfl
theorem o_gt (x y : Nat) : (FloatKind.f32.format.order x y == some .gt) = fgt (fN .f32 x) (fN .f32 y) := by rw [order_ford]; rfl
theorem o_eq (x y : Nat) : (FloatKind.f32.format.order x y == some .eq) = feq (fN .f32 x) (fN .f32 y) := by rw [order_ford]; rfl
theorem o_ne (x y : Nat) : (FloatKind.f32.format.order x y != some .eq) = !feq (fN .f32 x) (fN .f32 y) := by rw [order_ford]; rfl
theorem o_le (x y : Nat) : (FloatKind.f32.format.order x y == some .lt || FloatKind.f32.format.order x y == some .eq) = fle (fN .f32 x) (fN .f32 y) := by rw [order_ford]; rfl
theorem o_ge (x y : Nat) : (FloatKind.f32.format.order x y == some .gt || FloatKind.f32.format.order x y == some .eq) = fge (fN .f32 x) (fN .f32 y) := by rw [order_ford]; rfl
/-! ### in units of 1/4096 -/
theorem Q_lt {x y : F32} {k l : Int} (hx : Q x k) (hy : Q y l) : flt x y = decide (k < l) := by
  unfold flt; rw [Q_ord hx hy, cmpInt]
  by_cases h : k < l
  · simp [h]
  · by_cases h2 : k = l <;> simp [h, h2]
theorem Q_le {x y : F32} {k l : Int} (hx : Q x k) (hy : Q y l) : fle x y = decide (k ≤ l) := by
  unfold fle; rw [Q_ord hx hy, cmpInt]
  by_cases h : k < l
  · simp [h]; omega
  · by_cases h2 : k = l
    · simp [h2]
    · simp [h, h2]; omega
theorem Q_gt {x y : F32} {k l : Int} (hx : Q x k) (hy : Q y l) : fgt x y = decide (l < k) := by
  unfold fgt; rw [Q_ord hx hy, cmpInt]
  by_cases h : k < l
  · simp [h]; omega
  · by_cases h2 : k = l
    · simp [h2]
    · simp [h, h2]; omega
theorem Q_ge {x y : F32} {k l : Int} (hx : Q x k) (hy : Q y l) : fge x y = decide (l ≤ k) := by
  unfold fge; rw [Q_ord hx hy, cmpInt]
  by_cases h : k < l
  · simp [h]
  · by_cases h2 : k = l
    · simp [h2]
    · simp [h, h2]; omega
theorem Q_eq {x y : F32} {k l : Int} (hx : Q x k) (hy : Q y l) : feq x y = decide (k = l) := by
  unfold feq; rw [Q_ord hx hy, cmpInt]
  by_cases h : k < l
  · simp [h]; omega
  · by_cases h2 : k = l
    · simp [h2]
    · simp [h, h2]
theorem Q_0 : Q (fc 0) 0 := (Q_mk 0 false 0 0 (0) (by decide +kernel) (by decide +kernel))
theorem Q_1 : Q (fc 1065353216) 4096 := (Q_mk 1065353216 false 8388608 126 (4096) (by decide +kernel) (by decide +kernel))
theorem Q_2 : Q (fc 1073741824) 8192 := (Q_mk 1073741824 false 8388608 127 (8192) (by decide +kernel) (by decide +kernel))
theorem Q_4 : Q (fc 1082130432) 16384 := (Q_mk 1082130432 false 8388608 128 (16384) (by decide +kernel) (by decide +kernel))
theorem Q_16 : Q (fc 1098907648) 65536 := (Q_mk 1098907648 false 8388608 130 (65536) (by decide +kernel) (by decide +kernel))
theorem Q_64 : Q (fc 1115684864) 262144 := (Q_mk 1115684864 false 8388608 132 (262144) (by decide +kernel) (by decide +kernel))
theorem Q_256 : Q (fc 1132462080) 1048576 := (Q_mk 1132462080 false 8388608 134 (1048576) (by decide +kernel) (by decide +kernel))
theorem Q_m256 : Q (fc 3279945728) (-1048576) := (Q_mk 3279945728 true 8388608 134 (-1048576) (by decide +kernel) (by decide +kernel))
theorem Q_1024 : Q (fc 1149239296) 4194304 := (Q_mk 1149239296 false 8388608 136 (4194304) (by decide +kernel) (by decide +kernel))
theorem Q_amount {x : F32} {k : Int} (hx : Q x k) : Q (amountN x) (k.natAbs : Int) := by
  unfold amountN
  rw [Q_lt hx Q_0]
  by_cases h : k < 0
  · rw [if_pos (by simpa using h)]
    have := Q_neg hx
    have e : ((k.natAbs : Nat) : Int) = -k := by omega
    rw [e]; exact this
  · rw [if_neg (by simpa using h)]
    have e : ((k.natAbs : Nat) : Int) = k := by omega
    rw [e]; exact hx
end Go.Proofs.YtfjafeepmpnegaaDoor

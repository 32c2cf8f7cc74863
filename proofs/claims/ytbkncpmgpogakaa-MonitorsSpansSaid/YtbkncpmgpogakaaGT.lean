/- Printed: types and contracts of the functions. -/
import Derived.Test.YtbkncpmgpogakaaAm28
import Derived.Test.YtbkncpmgpogakaaProg
namespace Go.Proofs.Ytbkncpmgpogakaa
open Go AM Go.RowKit
set_option linter.unusedVariables false
theorem mixed : Try.prog.follows .mixedOrders = true := by kernel_rfl

/-- pointcodelaw08.lives -/
abbrev T9 := (R : Type) → Heap → (Bool → Heap → Option R) → Option R
structure Lin9 (a : T9) : Prop where
  l : ∀ {R S : Type} {k : S → Option R} {H : Heap} {f : Bool → Heap → Option R} {g : Bool → Heap → Option S}, (∀ r0 H, f r0 H = (g r0 H).bind k) → a R H f = (a S H g).bind k
def w9 (a9 : T9) : Fun := fun R args H K => match args with
  | [] => a9 R H (fun r0 H => K (V.b r0) H)
  | _ => none
theorem w9_lin {a : T9} (l : Lin9 a) : FunLin (w9 a) := by
  intro R S args H f g k h
  unfold w9
  split
  · exact l.l fun _ _ => h _ _
  · rfl
/-- (pointcodelaw08.M).args -/
abbrev T12 := (R : Type) → Int → Int → Int → Int → Int → Heap → (Int → Int → Int → Int → Heap → Option R) → Option R
structure Lin12 (a : T12) : Prop where
  l : ∀ {R S : Type} {k : S → Option R} {t0_0 : Int} {t0_1 : Int} {t0_2 : Int} {t0_3 : Int} {t0_4 : Int} {H : Heap} {f : Int → Int → Int → Int → Heap → Option R} {g : Int → Int → Int → Int → Heap → Option S}, (∀ r0 r1 r2 r3 H, f r0 r1 r2 r3 H = (g r0 r1 r2 r3 H).bind k) → a R t0_0 t0_1 t0_2 t0_3 t0_4 H f = (a S t0_0 t0_1 t0_2 t0_3 t0_4 H g).bind k
def w12 (a12 : T12) : Fun := fun R args H K => match args with
  | [(V.agg [(V.i .u8 t0_0), (V.i .u8 t0_1), (V.i .u8 t0_2), (V.i .u8 t0_3), (V.i .u8 t0_4)])] => a12 R t0_0 t0_1 t0_2 t0_3 t0_4 H (fun r0 r1 r2 r3 H => K (V.tup [(V.i .i64 r0), (V.i .i64 r1), (V.i .i64 r2), (V.i .i64 r3)]) H)
  | _ => none
theorem w12_lin {a : T12} (l : Lin12 a) : FunLin (w12 a) := by
  intro R S args H f g k h
  unfold w12
  split
  · exact l.l fun _ _ _ _ _ => h _ _
  · rfl
/-- monitors.valid$1 -/
abbrev T21 := (R : Type) → Int → Heap → (Bool → Heap → Option R) → Option R
structure Lin21 (a : T21) : Prop where
  l : ∀ {R S : Type} {k : S → Option R} {t0 : Int} {H : Heap} {f : Bool → Heap → Option R} {g : Bool → Heap → Option S}, (∀ r0 H, f r0 H = (g r0 H).bind k) → a R t0 H f = (a S t0 H g).bind k
def w21 (a21 : T21) : Fun := fun R args H K => match args with
  | [(V.i .i64 t0)] => a21 R t0 H (fun r0 H => K (V.b r0) H)
  | _ => none
theorem w21_lin {a : T21} (l : Lin21 a) : FunLin (w21 a) := by
  intro R S args H f g k h
  unfold w21
  split
  · exact l.l fun _ _ => h _ _
  · rfl
/-- slices.IndexFunc[[]int,int] -/
abbrev T22 := (R : Type) → Sl → Heap → (Int → Heap → Option R) → Option R
structure Lin22 (a : T22) : Prop where
  l : ∀ {R S : Type} {k : S → Option R} {t0 : Sl} {H : Heap} {f : Int → Heap → Option R} {g : Int → Heap → Option S}, (∀ r0 H, f r0 H = (g r0 H).bind k) → a R t0 H f = (a S t0 H g).bind k
def w22 (a22 : T22) : Fun := fun R args H K => match args with
  | [(V.sl t0), (V.fn (.func 21) [] [])] => a22 R t0 H (fun r0 H => K (V.i .i64 r0) H)
  | _ => none
theorem w22_lin {a : T22} (l : Lin22 a) : FunLin (w22 a) := by
  intro R S args H f g k h
  unfold w22
  split
  · exact l.l fun _ _ => h _ _
  · rfl
/-- slices.ContainsFunc[[]int,int] -/
abbrev T20 := (R : Type) → Sl → Heap → (Bool → Heap → Option R) → Option R
structure Lin20 (a : T20) : Prop where
  l : ∀ {R S : Type} {k : S → Option R} {t0 : Sl} {H : Heap} {f : Bool → Heap → Option R} {g : Bool → Heap → Option S}, (∀ r0 H, f r0 H = (g r0 H).bind k) → a R t0 H f = (a S t0 H g).bind k
def w20 (a20 : T20) : Fun := fun R args H K => match args with
  | [(V.sl t0), (V.fn (.func 21) [] [])] => a20 R t0 H (fun r0 H => K (V.b r0) H)
  | _ => none
theorem w20_lin {a : T20} (l : Lin20 a) : FunLin (w20 a) := by
  intro R S args H f g k h
  unfold w20
  split
  · exact l.l fun _ _ => h _ _
  · rfl
/-- monitors.valid -/
abbrev T19 := (R : Type) → Sl → Heap → (Bool → Heap → Option R) → Option R
structure Lin19 (a : T19) : Prop where
  l : ∀ {R S : Type} {k : S → Option R} {t0 : Sl} {H : Heap} {f : Bool → Heap → Option R} {g : Bool → Heap → Option S}, (∀ r0 H, f r0 H = (g r0 H).bind k) → a R t0 H f = (a S t0 H g).bind k
def w19 (a19 : T19) : Fun := fun R args H K => match args with
  | [(V.sl t0)] => a19 R t0 H (fun r0 H => K (V.b r0) H)
  | _ => none
theorem w19_lin {a : T19} (l : Lin19 a) : FunLin (w19 a) := by
  intro R S args H f g k h
  unfold w19
  split
  · exact l.l fun _ _ => h _ _
  · rfl
/-- monitors.NewRate -/
abbrev T16 := (R : Type) → Int → Int → Heap → (V → Int → Heap → Option R) → Option R
structure Lin16 (a : T16) : Prop where
  l : ∀ {R S : Type} {k : S → Option R} {t0 : Int} {t1 : Int} {H : Heap} {f : V → Int → Heap → Option R} {g : V → Int → Heap → Option S}, (∀ r0 r1 H, f r0 r1 H = (g r0 r1 H).bind k) → a R t0 t1 H f = (a S t0 t1 H g).bind k
def w16 (a16 : T16) : Fun := fun R args H K => match args with
  | [(V.i .i64 t0), (V.i .i64 t1)] => a16 R t0 t1 H (fun r0 r1 H => K (V.tup [r0, (V.i .i64 r1)]) H)
  | _ => none
theorem w16_lin {a : T16} (l : Lin16 a) : FunLin (w16 a) := by
  intro R S args H f g k h
  unfold w16
  split
  · exact l.l fun _ _ _ => h _ _
  · rfl
/-- monitors.NewSum -/
abbrev T15 := (R : Type) → Int → Heap → (V → Int → Heap → Option R) → Option R
structure Lin15 (a : T15) : Prop where
  l : ∀ {R S : Type} {k : S → Option R} {t0 : Int} {H : Heap} {f : V → Int → Heap → Option R} {g : V → Int → Heap → Option S}, (∀ r0 r1 H, f r0 r1 H = (g r0 r1 H).bind k) → a R t0 H f = (a S t0 H g).bind k
def w15 (a15 : T15) : Fun := fun R args H K => match args with
  | [(V.i .i64 t0)] => a15 R t0 H (fun r0 r1 H => K (V.tup [r0, (V.i .i64 r1)]) H)
  | _ => none
theorem w15_lin {a : T15} (l : Lin15 a) : FunLin (w15 a) := by
  intro R S args H f g k h
  unfold w15
  split
  · exact l.l fun _ _ _ => h _ _
  · rfl
/-- monitors.NewSpan -/
abbrev T17 := (R : Type) → Int → Int → Int → Int → Heap → (V → Int → Heap → Option R) → Option R
structure Lin17 (a : T17) : Prop where
  l : ∀ {R S : Type} {k : S → Option R} {t0 : Int} {t1 : Int} {t2 : Int} {t3 : Int} {H : Heap} {f : V → Int → Heap → Option R} {g : V → Int → Heap → Option S}, (∀ r0 r1 H, f r0 r1 H = (g r0 r1 H).bind k) → a R t0 t1 t2 t3 H f = (a S t0 t1 t2 t3 H g).bind k
def w17 (a17 : T17) : Fun := fun R args H K => match args with
  | [(V.i .i64 t0), (V.i .i64 t1), (V.i .i64 t2), (V.i .i64 t3)] => a17 R t0 t1 t2 t3 H (fun r0 r1 H => K (V.tup [r0, (V.i .i64 r1)]) H)
  | _ => none
theorem w17_lin {a : T17} (l : Lin17 a) : FunLin (w17 a) := by
  intro R S args H f g k h
  unfold w17
  split
  · exact l.l fun _ _ _ => h _ _
  · rfl
/-- (pointcodelaw08.M).Of -/
abbrev T10 := (R : Type) → Int → Int → Int → Int → Int → Heap → (V → Int → Heap → Option R) → Option R
structure Lin10 (a : T10) : Prop where
  l : ∀ {R S : Type} {k : S → Option R} {t0_0 : Int} {t0_1 : Int} {t0_2 : Int} {t0_3 : Int} {t0_4 : Int} {H : Heap} {f : V → Int → Heap → Option R} {g : V → Int → Heap → Option S}, (∀ r0 r1 H, f r0 r1 H = (g r0 r1 H).bind k) → a R t0_0 t0_1 t0_2 t0_3 t0_4 H f = (a S t0_0 t0_1 t0_2 t0_3 t0_4 H g).bind k
def w10 (a10 : T10) : Fun := fun R args H K => match args with
  | [(V.agg [(V.i .u8 t0_0), (V.i .u8 t0_1), (V.i .u8 t0_2), (V.i .u8 t0_3), (V.i .u8 t0_4)])] => a10 R t0_0 t0_1 t0_2 t0_3 t0_4 H (fun r0 r1 H => K (V.tup [r0, (V.i .i64 r1)]) H)
  | _ => none
theorem w10_lin {a : T10} (l : Lin10 a) : FunLin (w10 a) := by
  intro R S args H f g k h
  unfold w10
  split
  · exact l.l fun _ _ _ => h _ _
  · rfl
/-- (*monitors.gauge).Level -/
abbrev T39 := (R : Type) → Option (Nat × Nat) → Heap → (Int → Heap → Option R) → Option R
structure Lin39 (a : T39) : Prop where
  l : ∀ {R S : Type} {k : S → Option R} {t0 : Option (Nat × Nat)} {H : Heap} {f : Int → Heap → Option R} {g : Int → Heap → Option S}, (∀ r0 H, f r0 H = (g r0 H).bind k) → a R t0 H f = (a S t0 H g).bind k
def w39 (a39 : T39) : Fun := fun R args H K => match args with
  | [(V.p t0)] => a39 R t0 H (fun r0 H => K (V.i .i64 r0) H)
  | _ => none
theorem w39_lin {a : T39} (l : Lin39 a) : FunLin (w39 a) := by
  intro R S args H f g k h
  unfold w39
  split
  · exact l.l fun _ _ => h _ _
  · rfl
/-- (*monitors.gauge).Over -/
abbrev T40 := (R : Type) → Option (Nat × Nat) → Heap → (Bool → Heap → Option R) → Option R
structure Lin40 (a : T40) : Prop where
  l : ∀ {R S : Type} {k : S → Option R} {t0 : Option (Nat × Nat)} {H : Heap} {f : Bool → Heap → Option R} {g : Bool → Heap → Option S}, (∀ r0 H, f r0 H = (g r0 H).bind k) → a R t0 H f = (a S t0 H g).bind k
def w40 (a40 : T40) : Fun := fun R args H K => match args with
  | [(V.p t0)] => a40 R t0 H (fun r0 H => K (V.b r0) H)
  | _ => none
theorem w40_lin {a : T40} (l : Lin40 a) : FunLin (w40 a) := by
  intro R S args H f g k h
  unfold w40
  split
  · exact l.l fun _ _ => h _ _
  · rfl
/-- pointcodelaw08.units -/
abbrev T11 := (R : Type) → ByteArray → Heap → (Sl → Heap → Option R) → Option R
structure Lin11 (a : T11) : Prop where
  l : ∀ {R S : Type} {k : S → Option R} {t0 : ByteArray} {H : Heap} {f : Sl → Heap → Option R} {g : Sl → Heap → Option S}, (∀ r0 H, f r0 H = (g r0 H).bind k) → a R t0 H f = (a S t0 H g).bind k
def w11 (a11 : T11) : Fun := fun R args H K => match args with
  | [(V.s t0)] => a11 R t0 H (fun r0 H => K (V.sl r0) H)
  | _ => none
theorem w11_lin {a : T11} (l : Lin11 a) : FunLin (w11 a) := by
  intro R S args H f g k h
  unfold w11
  split
  · exact l.l fun _ _ => h _ _
  · rfl
/-- monitors.limited[int] -/
abbrev T43 := (R : Type) → Int → Int → Int → Heap → (Int → Heap → Option R) → Option R
structure Lin43 (a : T43) : Prop where
  l : ∀ {R S : Type} {k : S → Option R} {t0 : Int} {t1 : Int} {t2 : Int} {H : Heap} {f : Int → Heap → Option R} {g : Int → Heap → Option S}, (∀ r0 H, f r0 H = (g r0 H).bind k) → a R t0 t1 t2 H f = (a S t0 t1 t2 H g).bind k
def w43 (a43 : T43) : Fun := fun R args H K => match args with
  | [(V.i .i64 t0), (V.i .i64 t1), (V.i .i64 t2)] => a43 R t0 t1 t2 H (fun r0 H => K (V.i .i64 r0) H)
  | _ => none
theorem w43_lin {a : T43} (l : Lin43 a) : FunLin (w43 a) := by
  intro R S args H f g k h
  unfold w43
  split
  · exact l.l fun _ _ => h _ _
  · rfl
/-- (*monitors.gauge).add -/
abbrev T42 := (R : Type) → Option (Nat × Nat) → Int → Heap → (Heap → Option R) → Option R
structure Lin42 (a : T42) : Prop where
  l : ∀ {R S : Type} {k : S → Option R} {t0 : Option (Nat × Nat)} {t1 : Int} {H : Heap} {f : Heap → Option R} {g : Heap → Option S}, (∀ H, f H = (g H).bind k) → a R t0 t1 H f = (a S t0 t1 H g).bind k
def w42 (a42 : T42) : Fun := fun R args H K => match args with
  | [(V.p t0), (V.i .i64 t1)] => a42 R t0 t1 H (fun H => K (V.tup []) H)
  | _ => none
theorem w42_lin {a : T42} (l : Lin42 a) : FunLin (w42 a) := by
  intro R S args H f g k h
  unfold w42
  split
  · exact l.l fun _ => h _ _
  · rfl
/-- (*monitors.sum).Count -/
abbrev T38 := (R : Type) → Option (Nat × Nat) → Bool → Heap → (Heap → Option R) → Option R
structure Lin38 (a : T38) : Prop where
  l : ∀ {R S : Type} {k : S → Option R} {t0 : Option (Nat × Nat)} {t1 : Bool} {H : Heap} {f : Heap → Option R} {g : Heap → Option S}, (∀ H, f H = (g H).bind k) → a R t0 t1 H f = (a S t0 t1 H g).bind k
def w38 (a38 : T38) : Fun := fun R args H K => match args with
  | [(V.p t0), (V.b t1)] => a38 R t0 t1 H (fun H => K (V.tup []) H)
  | _ => none
theorem w38_lin {a : T38} (l : Lin38 a) : FunLin (w38 a) := by
  intro R S args H f g k h
  unfold w38
  split
  · exact l.l fun _ => h _ _
  · rfl
/-- (*monitors.rate).Count -/
abbrev T44 := (R : Type) → Option (Nat × Nat) → Bool → Heap → (Heap → Option R) → Option R
structure Lin44 (a : T44) : Prop where
  l : ∀ {R S : Type} {k : S → Option R} {t0 : Option (Nat × Nat)} {t1 : Bool} {H : Heap} {f : Heap → Option R} {g : Heap → Option S}, (∀ H, f H = (g H).bind k) → a R t0 t1 H f = (a S t0 t1 H g).bind k
def w44 (a44 : T44) : Fun := fun R args H K => match args with
  | [(V.p t0), (V.b t1)] => a44 R t0 t1 H (fun H => K (V.tup []) H)
  | _ => none
theorem w44_lin {a : T44} (l : Lin44 a) : FunLin (w44 a) := by
  intro R S args H f g k h
  unfold w44
  split
  · exact l.l fun _ => h _ _
  · rfl
/-- (*monitors.span).Count -/
abbrev T46 := (R : Type) → Option (Nat × Nat) → Bool → Heap → (Heap → Option R) → Option R
structure Lin46 (a : T46) : Prop where
  l : ∀ {R S : Type} {k : S → Option R} {t0 : Option (Nat × Nat)} {t1 : Bool} {H : Heap} {f : Heap → Option R} {g : Heap → Option S}, (∀ H, f H = (g H).bind k) → a R t0 t1 H f = (a S t0 t1 H g).bind k
def w46 (a46 : T46) : Fun := fun R args H K => match args with
  | [(V.p t0), (V.b t1)] => a46 R t0 t1 H (fun H => K (V.tup []) H)
  | _ => none
theorem w46_lin {a : T46} (l : Lin46 a) : FunLin (w46 a) := by
  intro R S args H f g k h
  unfold w46
  split
  · exact l.l fun _ => h _ _
  · rfl
/-- (*monitors.sum).Reset -/
abbrev T41 := (R : Type) → Option (Nat × Nat) → Heap → (Heap → Option R) → Option R
structure Lin41 (a : T41) : Prop where
  l : ∀ {R S : Type} {k : S → Option R} {t0 : Option (Nat × Nat)} {H : Heap} {f : Heap → Option R} {g : Heap → Option S}, (∀ H, f H = (g H).bind k) → a R t0 H f = (a S t0 H g).bind k
def w41 (a41 : T41) : Fun := fun R args H K => match args with
  | [(V.p t0)] => a41 R t0 H (fun H => K (V.tup []) H)
  | _ => none
theorem w41_lin {a : T41} (l : Lin41 a) : FunLin (w41 a) := by
  intro R S args H f g k h
  unfold w41
  split
  · exact l.l fun _ => h _ _
  · rfl
/-- (*monitors.rate).Reset -/
abbrev T45 := (R : Type) → Option (Nat × Nat) → Heap → (Heap → Option R) → Option R
structure Lin45 (a : T45) : Prop where
  l : ∀ {R S : Type} {k : S → Option R} {t0 : Option (Nat × Nat)} {H : Heap} {f : Heap → Option R} {g : Heap → Option S}, (∀ H, f H = (g H).bind k) → a R t0 H f = (a S t0 H g).bind k
def w45 (a45 : T45) : Fun := fun R args H K => match args with
  | [(V.p t0)] => a45 R t0 H (fun H => K (V.tup []) H)
  | _ => none
theorem w45_lin {a : T45} (l : Lin45 a) : FunLin (w45 a) := by
  intro R S args H f g k h
  unfold w45
  split
  · exact l.l fun _ => h _ _
  · rfl
/-- (*monitors.span).Reset -/
abbrev T47 := (R : Type) → Option (Nat × Nat) → Heap → (Heap → Option R) → Option R
structure Lin47 (a : T47) : Prop where
  l : ∀ {R S : Type} {k : S → Option R} {t0 : Option (Nat × Nat)} {H : Heap} {f : Heap → Option R} {g : Heap → Option S}, (∀ H, f H = (g H).bind k) → a R t0 H f = (a S t0 H g).bind k
def w47 (a47 : T47) : Fun := fun R args H K => match args with
  | [(V.p t0)] => a47 R t0 H (fun H => K (V.tup []) H)
  | _ => none
theorem w47_lin {a : T47} (l : Lin47 a) : FunLin (w47 a) := by
  intro R S args H f g k h
  unfold w47
  split
  · exact l.l fun _ => h _ _
  · rfl
/-- (pointcodelaw08.M).level -/
abbrev T13 := (R : Type) → Int → Int → Int → Int → Int → Sl → Heap → (Int → Heap → Option R) → Option R
structure Lin13 (a : T13) : Prop where
  l : ∀ {R S : Type} {k : S → Option R} {t0_0 : Int} {t0_1 : Int} {t0_2 : Int} {t0_3 : Int} {t0_4 : Int} {t1 : Sl} {H : Heap} {f : Int → Heap → Option R} {g : Int → Heap → Option S}, (∀ r0 H, f r0 H = (g r0 H).bind k) → a R t0_0 t0_1 t0_2 t0_3 t0_4 t1 H f = (a S t0_0 t0_1 t0_2 t0_3 t0_4 t1 H g).bind k
def w13 (a13 : T13) : Fun := fun R args H K => match args with
  | [(V.agg [(V.i .u8 t0_0), (V.i .u8 t0_1), (V.i .u8 t0_2), (V.i .u8 t0_3), (V.i .u8 t0_4)]), (V.sl t1)] => a13 R t0_0 t0_1 t0_2 t0_3 t0_4 t1 H (fun r0 H => K (V.i .i64 r0) H)
  | _ => none
theorem w13_lin {a : T13} (l : Lin13 a) : FunLin (w13 a) := by
  intro R S args H f g k h
  unfold w13
  split
  · exact l.l fun _ _ => h _ _
  · rfl
/-- pointcodelaw08.MonitorsLevel -/
abbrev T3 := (R : Type) → Int → Int → Int → Int → Int → ByteArray → Int → Heap → (Bool → Heap → Option R) → Option R
structure Lin3 (a : T3) : Prop where
  l : ∀ {R S : Type} {k : S → Option R} {t0_0 : Int} {t0_1 : Int} {t0_2 : Int} {t0_3 : Int} {t0_4 : Int} {t1 : ByteArray} {t2 : Int} {H : Heap} {f : Bool → Heap → Option R} {g : Bool → Heap → Option S}, (∀ r0 H, f r0 H = (g r0 H).bind k) → a R t0_0 t0_1 t0_2 t0_3 t0_4 t1 t2 H f = (a S t0_0 t0_1 t0_2 t0_3 t0_4 t1 t2 H g).bind k
def w3 (a3 : T3) : Fun := fun R args H K => match args with
  | [(V.agg [(V.i .u8 t0_0), (V.i .u8 t0_1), (V.i .u8 t0_2), (V.i .u8 t0_3), (V.i .u8 t0_4)]), (V.s t1), (V.i .u8 t2)] => a3 R t0_0 t0_1 t0_2 t0_3 t0_4 t1 t2 H (fun r0 H => K (V.b r0) H)
  | _ => none
theorem w3_lin {a : T3} (l : Lin3 a) : FunLin (w3 a) := by
  intro R S args H f g k h
  unfold w3
  split
  · exact l.l fun _ _ => h _ _
  · rfl
/-- monitors.First -/
abbrev T14 := (R : Type) → V → Sl → Heap → (Int → Heap → Option R) → Option R
structure Lin14 (a : T14) : Prop where
  l : ∀ {R S : Type} {k : S → Option R} {t0 : V} {t1 : Sl} {H : Heap} {f : Int → Heap → Option R} {g : Int → Heap → Option S}, (∀ r0 H, f r0 H = (g r0 H).bind k) → a R t0 t1 H f = (a S t0 t1 H g).bind k
def w14 (a14 : T14) : Fun := fun R args H K => match args with
  | [t0, (V.sl t1)] => a14 R t0 t1 H (fun r0 H => K (V.i .i64 r0) H)
  | _ => none
theorem w14_lin {a : T14} (l : Lin14 a) : FunLin (w14 a) := by
  intro R S args H f g k h
  unfold w14
  split
  · exact l.l fun _ _ => h _ _
  · rfl
/-- pointcodelaw08.MonitorsFirst -/
abbrev T4 := (R : Type) → Int → Int → Int → Int → Int → ByteArray → Heap → (Bool → Heap → Option R) → Option R
structure Lin4 (a : T4) : Prop where
  l : ∀ {R S : Type} {k : S → Option R} {t0_0 : Int} {t0_1 : Int} {t0_2 : Int} {t0_3 : Int} {t0_4 : Int} {t1 : ByteArray} {H : Heap} {f : Bool → Heap → Option R} {g : Bool → Heap → Option S}, (∀ r0 H, f r0 H = (g r0 H).bind k) → a R t0_0 t0_1 t0_2 t0_3 t0_4 t1 H f = (a S t0_0 t0_1 t0_2 t0_3 t0_4 t1 H g).bind k
def w4 (a4 : T4) : Fun := fun R args H K => match args with
  | [(V.agg [(V.i .u8 t0_0), (V.i .u8 t0_1), (V.i .u8 t0_2), (V.i .u8 t0_3), (V.i .u8 t0_4)]), (V.s t1)] => a4 R t0_0 t0_1 t0_2 t0_3 t0_4 t1 H (fun r0 H => K (V.b r0) H)
  | _ => none
theorem w4_lin {a : T4} (l : Lin4 a) : FunLin (w4 a) := by
  intro R S args H f g k h
  unfold w4
  split
  · exact l.l fun _ _ => h _ _
  · rfl
/-- pointcodelaw08.MonitorsMore -/
abbrev T5 := (R : Type) → Int → Int → Int → Int → Int → ByteArray → ByteArray → Heap → (Bool → Heap → Option R) → Option R
structure Lin5 (a : T5) : Prop where
  l : ∀ {R S : Type} {k : S → Option R} {t0_0 : Int} {t0_1 : Int} {t0_2 : Int} {t0_3 : Int} {t0_4 : Int} {t1 : ByteArray} {t2 : ByteArray} {H : Heap} {f : Bool → Heap → Option R} {g : Bool → Heap → Option S}, (∀ r0 H, f r0 H = (g r0 H).bind k) → a R t0_0 t0_1 t0_2 t0_3 t0_4 t1 t2 H f = (a S t0_0 t0_1 t0_2 t0_3 t0_4 t1 t2 H g).bind k
def w5 (a5 : T5) : Fun := fun R args H K => match args with
  | [(V.agg [(V.i .u8 t0_0), (V.i .u8 t0_1), (V.i .u8 t0_2), (V.i .u8 t0_3), (V.i .u8 t0_4)]), (V.s t1), (V.s t2)] => a5 R t0_0 t0_1 t0_2 t0_3 t0_4 t1 t2 H (fun r0 H => K (V.b r0) H)
  | _ => none
theorem w5_lin {a : T5} (l : Lin5 a) : FunLin (w5 a) := by
  intro R S args H f g k h
  unfold w5
  split
  · exact l.l fun _ _ => h _ _
  · rfl
/-- pointcodelaw08.MonitorsRate -/
abbrev T6 := (R : Type) → Int → Int → Int → Int → Int → ByteArray → Heap → (Bool → Heap → Option R) → Option R
structure Lin6 (a : T6) : Prop where
  l : ∀ {R S : Type} {k : S → Option R} {t0_0 : Int} {t0_1 : Int} {t0_2 : Int} {t0_3 : Int} {t0_4 : Int} {t1 : ByteArray} {H : Heap} {f : Bool → Heap → Option R} {g : Bool → Heap → Option S}, (∀ r0 H, f r0 H = (g r0 H).bind k) → a R t0_0 t0_1 t0_2 t0_3 t0_4 t1 H f = (a S t0_0 t0_1 t0_2 t0_3 t0_4 t1 H g).bind k
def w6 (a6 : T6) : Fun := fun R args H K => match args with
  | [(V.agg [(V.i .u8 t0_0), (V.i .u8 t0_1), (V.i .u8 t0_2), (V.i .u8 t0_3), (V.i .u8 t0_4)]), (V.s t1)] => a6 R t0_0 t0_1 t0_2 t0_3 t0_4 t1 H (fun r0 H => K (V.b r0) H)
  | _ => none
theorem w6_lin {a : T6} (l : Lin6 a) : FunLin (w6 a) := by
  intro R S args H f g k h
  unfold w6
  split
  · exact l.l fun _ _ => h _ _
  · rfl
/-- pointcodelaw08.MonitorsSpans -/
abbrev T7 := (R : Type) → Int → Int → Int → Int → Int → ByteArray → Int → Heap → (Bool → Heap → Option R) → Option R
structure Lin7 (a : T7) : Prop where
  l : ∀ {R S : Type} {k : S → Option R} {t0_0 : Int} {t0_1 : Int} {t0_2 : Int} {t0_3 : Int} {t0_4 : Int} {t1 : ByteArray} {t2 : Int} {H : Heap} {f : Bool → Heap → Option R} {g : Bool → Heap → Option S}, (∀ r0 H, f r0 H = (g r0 H).bind k) → a R t0_0 t0_1 t0_2 t0_3 t0_4 t1 t2 H f = (a S t0_0 t0_1 t0_2 t0_3 t0_4 t1 t2 H g).bind k
def w7 (a7 : T7) : Fun := fun R args H K => match args with
  | [(V.agg [(V.i .u8 t0_0), (V.i .u8 t0_1), (V.i .u8 t0_2), (V.i .u8 t0_3), (V.i .u8 t0_4)]), (V.s t1), (V.i .u8 t2)] => a7 R t0_0 t0_1 t0_2 t0_3 t0_4 t1 t2 H (fun r0 H => K (V.b r0) H)
  | _ => none
theorem w7_lin {a : T7} (l : Lin7 a) : FunLin (w7 a) := by
  intro R S args H f g k h
  unfold w7
  split
  · exact l.l fun _ _ => h _ _
  · rfl
/-- pointcodelaw08.MonitorsErrors -/
abbrev T8 := (R : Type) → Int → Int → Int → Int → Heap → (Bool → Heap → Option R) → Option R
structure Lin8 (a : T8) : Prop where
  l : ∀ {R S : Type} {k : S → Option R} {t0_0 : Int} {t0_1 : Int} {t0_2 : Int} {t0_3 : Int} {H : Heap} {f : Bool → Heap → Option R} {g : Bool → Heap → Option S}, (∀ r0 H, f r0 H = (g r0 H).bind k) → a R t0_0 t0_1 t0_2 t0_3 H f = (a S t0_0 t0_1 t0_2 t0_3 H g).bind k
def w8 (a8 : T8) : Fun := fun R args H K => match args with
  | [(V.agg [(V.i .i64 t0_0), (V.i .i64 t0_1), (V.i .i64 t0_2), (V.i .i64 t0_3)])] => a8 R t0_0 t0_1 t0_2 t0_3 H (fun r0 H => K (V.b r0) H)
  | _ => none
theorem w8_lin {a : T8} (l : Lin8 a) : FunLin (w8 a) := by
  intro R S args H f g k h
  unfold w8
  split
  · exact l.l fun _ _ => h _ _
  · rfl
end Go.Proofs.Ytbkncpmgpogakaa

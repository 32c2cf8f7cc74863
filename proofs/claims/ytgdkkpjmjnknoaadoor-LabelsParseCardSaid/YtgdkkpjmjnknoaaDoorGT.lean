/- Printed: types and contracts of the functions. -/
import Derived.Test.YtgdkkpjmjnknoaaDoorAmC
import Derived.Test.YtgdkkpjmjnknoaaDoorProg
namespace Go.Proofs.YtgdkkpjmjnknoaaDoor
open Go AM Go.RowKit
set_option linter.unusedVariables false
theorem mixed : Tryd.prog.follows .mixedOrders = true := by kernel_rfl
def str0 : ByteArray := ⟨#[]⟩
def str1 : ByteArray := ⟨#[45]⟩
def str2 : ByteArray := ⟨#[115, 116, 114, 105, 110, 103, 115, 58, 32, 74, 111, 105, 110, 32, 111, 117, 116, 112, 117, 116, 32, 108, 101, 110, 103, 116, 104, 32, 111, 118, 101, 114, 102, 108, 111, 119]⟩
def str3 : ByteArray := ⟨#[115, 116, 114, 105, 110, 103, 115, 46, 66, 117, 105, 108, 100, 101, 114, 46, 71, 114, 111, 119, 58, 32, 110, 101, 103, 97, 116, 105, 118, 101, 32, 99, 111, 117, 110, 116]⟩
/-- strconv.Itoa -/
abbrev T29 := (R : Type) → Int → Heap → (ByteArray → Heap → Option R) → Option R
structure Lin29 (a : T29) : Prop where
  l : ∀ {R S : Type} {k : S → Option R} {t0 : Int} {H : Heap} {f : ByteArray → Heap → Option R} {g : ByteArray → Heap → Option S}, (∀ r0 H, f r0 H = (g r0 H).bind k) → a R t0 H f = (a S t0 H g).bind k
def w29 (a29 : T29) : Fun := fun R args H K => match args with
  | [(V.i .i64 t0)] => a29 R t0 H (fun r0 H => K (V.s r0) H)
  | _ => none
theorem w29_lin {a : T29} (l : Lin29 a) : FunLin (w29 a) := by
  intro R S args H f g k h
  unfold w29
  split
  · exact l.l fun _ _ => h _ _
  · rfl
/-- (*strings.Builder).copyCheck -/
abbrev T50 := (R : Type) → Option (Nat × Nat) → Heap → (Heap → Option R) → Option R
structure Lin50 (a : T50) : Prop where
  l : ∀ {R S : Type} {k : S → Option R} {t0 : Option (Nat × Nat)} {H : Heap} {f : Heap → Option R} {g : Heap → Option S}, (∀ H, f H = (g H).bind k) → a R t0 H f = (a S t0 H g).bind k
def w50 (a50 : T50) : Fun := fun R args H K => match args with
  | [(V.p t0)] => a50 R t0 H (fun H => K (V.tup []) H)
  | _ => none
theorem w50_lin {a : T50} (l : Lin50 a) : FunLin (w50 a) := by
  intro R S args H f g k h
  unfold w50
  split
  · exact l.l fun _ => h _ _
  · rfl
/-- internal/bytealg.MakeNoZero -/
abbrev T61 := (R : Type) → Int → Heap → (Sl → Heap → Option R) → Option R
structure Lin61 (a : T61) : Prop where
  l : ∀ {R S : Type} {k : S → Option R} {t0 : Int} {H : Heap} {f : Sl → Heap → Option R} {g : Sl → Heap → Option S}, (∀ r0 H, f r0 H = (g r0 H).bind k) → a R t0 H f = (a S t0 H g).bind k
def w61 (a61 : T61) : Fun := fun R args H K => match args with
  | [(V.i .i64 t0)] => a61 R t0 H (fun r0 H => K (V.sl r0) H)
  | _ => none
theorem w61_lin {a : T61} (l : Lin61 a) : FunLin (w61 a) := by
  intro R S args H f g k h
  unfold w61
  split
  · exact l.l fun _ _ => h _ _
  · rfl
/-- (*strings.Builder).grow -/
abbrev T51 := (R : Type) → Option (Nat × Nat) → Int → Heap → (Heap → Option R) → Option R
structure Lin51 (a : T51) : Prop where
  l : ∀ {R S : Type} {k : S → Option R} {t0 : Option (Nat × Nat)} {t1 : Int} {H : Heap} {f : Heap → Option R} {g : Heap → Option S}, (∀ H, f H = (g H).bind k) → a R t0 t1 H f = (a S t0 t1 H g).bind k
def w51 (a51 : T51) : Fun := fun R args H K => match args with
  | [(V.p t0), (V.i .i64 t1)] => a51 R t0 t1 H (fun H => K (V.tup []) H)
  | _ => none
theorem w51_lin {a : T51} (l : Lin51 a) : FunLin (w51 a) := by
  intro R S args H f g k h
  unfold w51
  split
  · exact l.l fun _ => h _ _
  · rfl
/-- (*strings.Builder).Grow -/
abbrev T39 := (R : Type) → Option (Nat × Nat) → Int → Heap → (Heap → Option R) → Option R
structure Lin39 (a : T39) : Prop where
  l : ∀ {R S : Type} {k : S → Option R} {t0 : Option (Nat × Nat)} {t1 : Int} {H : Heap} {f : Heap → Option R} {g : Heap → Option S}, (∀ H, f H = (g H).bind k) → a R t0 t1 H f = (a S t0 t1 H g).bind k
def w39 (a39 : T39) : Fun := fun R args H K => match args with
  | [(V.p t0), (V.i .i64 t1)] => a39 R t0 t1 H (fun H => K (V.tup []) H)
  | _ => none
theorem w39_lin {a : T39} (l : Lin39 a) : FunLin (w39 a) := by
  intro R S args H f g k h
  unfold w39
  split
  · exact l.l fun _ => h _ _
  · rfl
/-- (*strings.Builder).WriteString -/
abbrev T40 := (R : Type) → Option (Nat × Nat) → ByteArray → Heap → (Int → V → Heap → Option R) → Option R
structure Lin40 (a : T40) : Prop where
  l : ∀ {R S : Type} {k : S → Option R} {t0 : Option (Nat × Nat)} {t1 : ByteArray} {H : Heap} {f : Int → V → Heap → Option R} {g : Int → V → Heap → Option S}, (∀ r0 r1 H, f r0 r1 H = (g r0 r1 H).bind k) → a R t0 t1 H f = (a S t0 t1 H g).bind k
def w40 (a40 : T40) : Fun := fun R args H K => match args with
  | [(V.p t0), (V.s t1)] => a40 R t0 t1 H (fun r0 r1 H => K (V.tup [(V.i .i64 r0), r1]) H)
  | _ => none
theorem w40_lin {a : T40} (l : Lin40 a) : FunLin (w40 a) := by
  intro R S args H f g k h
  unfold w40
  split
  · exact l.l fun _ _ _ => h _ _
  · rfl
/-- (*strings.Builder).String -/
abbrev T41 := (R : Type) → Option (Nat × Nat) → Heap → (ByteArray → Heap → Option R) → Option R
structure Lin41 (a : T41) : Prop where
  l : ∀ {R S : Type} {k : S → Option R} {t0 : Option (Nat × Nat)} {H : Heap} {f : ByteArray → Heap → Option R} {g : ByteArray → Heap → Option S}, (∀ r0 H, f r0 H = (g r0 H).bind k) → a R t0 H f = (a S t0 H g).bind k
def w41 (a41 : T41) : Fun := fun R args H K => match args with
  | [(V.p t0)] => a41 R t0 H (fun r0 H => K (V.s r0) H)
  | _ => none
theorem w41_lin {a : T41} (l : Lin41 a) : FunLin (w41 a) := by
  intro R S args H f g k h
  unfold w41
  split
  · exact l.l fun _ _ => h _ _
  · rfl
/-- strings.Join -/
abbrev T30 := (R : Type) → Sl → ByteArray → Heap → (ByteArray → Heap → Option R) → Option R
structure Lin30 (a : T30) : Prop where
  l : ∀ {R S : Type} {k : S → Option R} {t0 : Sl} {t1 : ByteArray} {H : Heap} {f : ByteArray → Heap → Option R} {g : ByteArray → Heap → Option S}, (∀ r0 H, f r0 H = (g r0 H).bind k) → a R t0 t1 H f = (a S t0 t1 H g).bind k
def w30 (a30 : T30) : Fun := fun R args H K => match args with
  | [(V.sl t0), (V.s t1)] => a30 R t0 t1 H (fun r0 H => K (V.s r0) H)
  | _ => none
theorem w30_lin {a : T30} (l : Lin30 a) : FunLin (w30 a) := by
  intro R S args H f g k h
  unfold w30
  split
  · exact l.l fun _ _ => h _ _
  · rfl
/-- labels.Text -/
abbrev T11 := (R : Type) → Int → Heap → (ByteArray → Heap → Option R) → Option R
structure Lin11 (a : T11) : Prop where
  l : ∀ {R S : Type} {k : S → Option R} {t0 : Int} {H : Heap} {f : ByteArray → Heap → Option R} {g : ByteArray → Heap → Option S}, (∀ r0 H, f r0 H = (g r0 H).bind k) → a R t0 H f = (a S t0 H g).bind k
def w11 (a11 : T11) : Fun := fun R args H K => match args with
  | [(V.i .u16 t0)] => a11 R t0 H (fun r0 H => K (V.s r0) H)
  | _ => none
theorem w11_lin {a : T11} (l : Lin11 a) : FunLin (w11 a) := by
  intro R S args H f g k h
  unfold w11
  split
  · exact l.l fun _ _ => h _ _
  · rfl
/-- pointcodelaw12.lives -/
abbrev T12 := (R : Type) → Heap → (Bool → Heap → Option R) → Option R
structure Lin12 (a : T12) : Prop where
  l : ∀ {R S : Type} {k : S → Option R} {H : Heap} {f : Bool → Heap → Option R} {g : Bool → Heap → Option S}, (∀ r0 H, f r0 H = (g r0 H).bind k) → a R H f = (a S H g).bind k
def w12 (a12 : T12) : Fun := fun R args H K => match args with
  | [] => a12 R H (fun r0 H => K (V.b r0) H)
  | _ => none
theorem w12_lin {a : T12} (l : Lin12 a) : FunLin (w12 a) := by
  intro R S args H f g k h
  unfold w12
  split
  · exact l.l fun _ _ => h _ _
  · rfl
/-- strings.Split -/
abbrev T15 := (R : Type) → ByteArray → ByteArray → Heap → (Sl → Heap → Option R) → Option R
structure Lin15 (a : T15) : Prop where
  l : ∀ {R S : Type} {k : S → Option R} {t0 : ByteArray} {t1 : ByteArray} {H : Heap} {f : Sl → Heap → Option R} {g : Sl → Heap → Option S}, (∀ r0 H, f r0 H = (g r0 H).bind k) → a R t0 t1 H f = (a S t0 t1 H g).bind k
def w15 (a15 : T15) : Fun := fun R args H K => match args with
  | [(V.s t0), (V.s t1)] => a15 R t0 t1 H (fun r0 H => K (V.sl r0) H)
  | _ => none
theorem w15_lin {a : T15} (l : Lin15 a) : FunLin (w15 a) := by
  intro R S args H f g k h
  unfold w15
  split
  · exact l.l fun _ _ => h _ _
  · rfl
/-- labels.number -/
abbrev T31 := (R : Type) → ByteArray → Heap → (Int → Bool → Heap → Option R) → Option R
structure Lin31 (a : T31) : Prop where
  l : ∀ {R S : Type} {k : S → Option R} {t0 : ByteArray} {H : Heap} {f : Int → Bool → Heap → Option R} {g : Int → Bool → Heap → Option S}, (∀ r0 r1 H, f r0 r1 H = (g r0 r1 H).bind k) → a R t0 H f = (a S t0 H g).bind k
def w31 (a31 : T31) : Fun := fun R args H K => match args with
  | [(V.s t0)] => a31 R t0 H (fun r0 r1 H => K (V.tup [(V.i .i64 r0), (V.b r1)]) H)
  | _ => none
theorem w31_lin {a : T31} (l : Lin31 a) : FunLin (w31 a) := by
  intro R S args H f g k h
  unfold w31
  split
  · exact l.l fun _ _ _ => h _ _
  · rfl
/-- labels.Parse -/
abbrev T13 := (R : Type) → ByteArray → Heap → (Int → Int → Heap → Option R) → Option R
structure Lin13 (a : T13) : Prop where
  l : ∀ {R S : Type} {k : S → Option R} {t0 : ByteArray} {H : Heap} {f : Int → Int → Heap → Option R} {g : Int → Int → Heap → Option S}, (∀ r0 r1 H, f r0 r1 H = (g r0 r1 H).bind k) → a R t0 H f = (a S t0 H g).bind k
def w13 (a13 : T13) : Fun := fun R args H K => match args with
  | [(V.s t0)] => a13 R t0 H (fun r0 r1 H => K (V.tup [(V.i .u16 r0), (V.i .i64 r1)]) H)
  | _ => none
theorem w13_lin {a : T13} (l : Lin13 a) : FunLin (w13 a) := by
  intro R S args H f g k h
  unfold w13
  split
  · exact l.l fun _ _ _ => h _ _
  · rfl
/-- pointcodelaw12.Point -/
abbrev T14 := (R : Type) → Int → Heap → (ByteArray → Heap → Option R) → Option R
structure Lin14 (a : T14) : Prop where
  l : ∀ {R S : Type} {k : S → Option R} {t0 : Int} {H : Heap} {f : ByteArray → Heap → Option R} {g : ByteArray → Heap → Option S}, (∀ r0 H, f r0 H = (g r0 H).bind k) → a R t0 H f = (a S t0 H g).bind k
def w14 (a14 : T14) : Fun := fun R args H K => match args with
  | [(V.i .u16 t0)] => a14 R t0 H (fun r0 H => K (V.s r0) H)
  | _ => none
theorem w14_lin {a : T14} (l : Lin14 a) : FunLin (w14 a) := by
  intro R S args H f g k h
  unfold w14
  split
  · exact l.l fun _ _ => h _ _
  · rfl
/-- pointcodelaw12.LabelsText -/
abbrev T3 := (R : Type) → Int → Heap → (Bool → Heap → Option R) → Option R
structure Lin3 (a : T3) : Prop where
  l : ∀ {R S : Type} {k : S → Option R} {t0 : Int} {H : Heap} {f : Bool → Heap → Option R} {g : Bool → Heap → Option S}, (∀ r0 H, f r0 H = (g r0 H).bind k) → a R t0 H f = (a S t0 H g).bind k
def w3 (a3 : T3) : Fun := fun R args H K => match args with
  | [(V.i .u16 t0)] => a3 R t0 H (fun r0 H => K (V.b r0) H)
  | _ => none
theorem w3_lin {a : T3} (l : Lin3 a) : FunLin (w3 a) := by
  intro R S args H f g k h
  unfold w3
  split
  · exact l.l fun _ _ => h _ _
  · rfl
/-- pointcodelaw12.part -/
abbrev T16 := (R : Type) → ByteArray → Heap → (Int → Heap → Option R) → Option R
structure Lin16 (a : T16) : Prop where
  l : ∀ {R S : Type} {k : S → Option R} {t0 : ByteArray} {H : Heap} {f : Int → Heap → Option R} {g : Int → Heap → Option S}, (∀ r0 H, f r0 H = (g r0 H).bind k) → a R t0 H f = (a S t0 H g).bind k
def w16 (a16 : T16) : Fun := fun R args H K => match args with
  | [(V.s t0)] => a16 R t0 H (fun r0 H => K (V.i .i64 r0) H)
  | _ => none
theorem w16_lin {a : T16} (l : Lin16 a) : FunLin (w16 a) := by
  intro R S args H f g k h
  unfold w16
  split
  · exact l.l fun _ _ => h _ _
  · rfl
/-- pointcodelaw12.LabelsParse -/
abbrev T4 := (R : Type) → ByteArray → Heap → (Bool → Heap → Option R) → Option R
structure Lin4 (a : T4) : Prop where
  l : ∀ {R S : Type} {k : S → Option R} {t0 : ByteArray} {H : Heap} {f : Bool → Heap → Option R} {g : Bool → Heap → Option S}, (∀ r0 H, f r0 H = (g r0 H).bind k) → a R t0 H f = (a S t0 H g).bind k
def w4 (a4 : T4) : Fun := fun R args H K => match args with
  | [(V.s t0)] => a4 R t0 H (fun r0 H => K (V.b r0) H)
  | _ => none
theorem w4_lin {a : T4} (l : Lin4 a) : FunLin (w4 a) := by
  intro R S args H f g k h
  unfold w4
  split
  · exact l.l fun _ _ => h _ _
  · rfl
/-- labels.Check -/
abbrev T18 := (R : Type) → Int → Int → Int → Int → Int → Int → Sl → Heap → (Int → Heap → Option R) → Option R
structure Lin18 (a : T18) : Prop where
  l : ∀ {R S : Type} {k : S → Option R} {t0_0 : Int} {t0_1 : Int} {t0_2 : Int} {t0_3 : Int} {t0_4 : Int} {t0_5 : Int} {t0_6 : Sl} {H : Heap} {f : Int → Heap → Option R} {g : Int → Heap → Option S}, (∀ r0 H, f r0 H = (g r0 H).bind k) → a R t0_0 t0_1 t0_2 t0_3 t0_4 t0_5 t0_6 H f = (a S t0_0 t0_1 t0_2 t0_3 t0_4 t0_5 t0_6 H g).bind k
def w18 (a18 : T18) : Fun := fun R args H K => match args with
  | [(V.agg [(V.i .u8 t0_0), (V.i .u8 t0_1), (V.i .u8 t0_2), (V.i .u16 t0_3), (V.i .u16 t0_4), (V.i .u8 t0_5), (V.sl t0_6)])] => a18 R t0_0 t0_1 t0_2 t0_3 t0_4 t0_5 t0_6 H (fun r0 H => K (V.i .i64 r0) H)
  | _ => none
theorem w18_lin {a : T18} (l : Lin18 a) : FunLin (w18 a) := by
  intro R S args H f g k h
  unfold w18
  split
  · exact l.l fun _ _ => h _ _
  · rfl
/-- labels.Encode -/
abbrev T17 := (R : Type) → Int → Int → Int → Int → Int → Int → Sl → Heap → (Sl → Int → Heap → Option R) → Option R
structure Lin17 (a : T17) : Prop where
  l : ∀ {R S : Type} {k : S → Option R} {t0_0 : Int} {t0_1 : Int} {t0_2 : Int} {t0_3 : Int} {t0_4 : Int} {t0_5 : Int} {t0_6 : Sl} {H : Heap} {f : Sl → Int → Heap → Option R} {g : Sl → Int → Heap → Option S}, (∀ r0 r1 H, f r0 r1 H = (g r0 r1 H).bind k) → a R t0_0 t0_1 t0_2 t0_3 t0_4 t0_5 t0_6 H f = (a S t0_0 t0_1 t0_2 t0_3 t0_4 t0_5 t0_6 H g).bind k
def w17 (a17 : T17) : Fun := fun R args H K => match args with
  | [(V.agg [(V.i .u8 t0_0), (V.i .u8 t0_1), (V.i .u8 t0_2), (V.i .u16 t0_3), (V.i .u16 t0_4), (V.i .u8 t0_5), (V.sl t0_6)])] => a17 R t0_0 t0_1 t0_2 t0_3 t0_4 t0_5 t0_6 H (fun r0 r1 H => K (V.tup [(V.sl r0), (V.i .i64 r1)]) H)
  | _ => none
theorem w17_lin {a : T17} (l : Lin17 a) : FunLin (w17 a) := by
  intro R S args H f g k h
  unfold w17
  split
  · exact l.l fun _ _ _ => h _ _
  · rfl
/-- pointcodelaw12.LabelsCheck -/
abbrev T5 := (R : Type) → Int → Int → Int → Int → Int → Int → Sl → Int → Heap → (Bool → Heap → Option R) → Option R
structure Lin5 (a : T5) : Prop where
  l : ∀ {R S : Type} {k : S → Option R} {t0_0 : Int} {t0_1 : Int} {t0_2 : Int} {t0_3 : Int} {t0_4 : Int} {t0_5 : Int} {t0_6 : Sl} {t1 : Int} {H : Heap} {f : Bool → Heap → Option R} {g : Bool → Heap → Option S}, (∀ r0 H, f r0 H = (g r0 H).bind k) → a R t0_0 t0_1 t0_2 t0_3 t0_4 t0_5 t0_6 t1 H f = (a S t0_0 t0_1 t0_2 t0_3 t0_4 t0_5 t0_6 t1 H g).bind k
def w5 (a5 : T5) : Fun := fun R args H K => match args with
  | [(V.agg [(V.i .u8 t0_0), (V.i .u8 t0_1), (V.i .u8 t0_2), (V.i .u16 t0_3), (V.i .u16 t0_4), (V.i .u8 t0_5), (V.sl t0_6)]), (V.i .u16 t1)] => a5 R t0_0 t0_1 t0_2 t0_3 t0_4 t0_5 t0_6 t1 H (fun r0 H => K (V.b r0) H)
  | _ => none
theorem w5_lin {a : T5} (l : Lin5 a) : FunLin (w5 a) := by
  intro R S args H f g k h
  unfold w5
  split
  · exact l.l fun _ _ => h _ _
  · rfl
/-- labels.Rotate -/
abbrev T19 := (R : Type) → Int → Heap → (Int → Heap → Option R) → Option R
structure Lin19 (a : T19) : Prop where
  l : ∀ {R S : Type} {k : S → Option R} {t0 : Int} {H : Heap} {f : Int → Heap → Option R} {g : Int → Heap → Option S}, (∀ r0 H, f r0 H = (g r0 H).bind k) → a R t0 H f = (a S t0 H g).bind k
def w19 (a19 : T19) : Fun := fun R args H K => match args with
  | [(V.i .u8 t0)] => a19 R t0 H (fun r0 H => K (V.i .u8 r0) H)
  | _ => none
theorem w19_lin {a : T19} (l : Lin19 a) : FunLin (w19 a) := by
  intro R S args H f g k h
  unfold w19
  split
  · exact l.l fun _ _ => h _ _
  · rfl
/-- pointcodelaw12.LabelsRotate -/
abbrev T6 := (R : Type) → Int → Heap → (Bool → Heap → Option R) → Option R
structure Lin6 (a : T6) : Prop where
  l : ∀ {R S : Type} {k : S → Option R} {t0 : Int} {H : Heap} {f : Bool → Heap → Option R} {g : Bool → Heap → Option S}, (∀ r0 H, f r0 H = (g r0 H).bind k) → a R t0 H f = (a S t0 H g).bind k
def w6 (a6 : T6) : Fun := fun R args H K => match args with
  | [(V.i .u8 t0)] => a6 R t0 H (fun r0 H => K (V.b r0) H)
  | _ => none
theorem w6_lin {a : T6} (l : Lin6 a) : FunLin (w6 a) := by
  intro R S args H f g k h
  unfold w6
  split
  · exact l.l fun _ _ => h _ _
  · rfl
/-- labels.Link -/
abbrev T20 := (R : Type) → Int → Int → Int → Heap → (Int → Int → Int → Int → Heap → Option R) → Option R
structure Lin20 (a : T20) : Prop where
  l : ∀ {R S : Type} {k : S → Option R} {t0 : Int} {t1 : Int} {t2 : Int} {H : Heap} {f : Int → Int → Int → Int → Heap → Option R} {g : Int → Int → Int → Int → Heap → Option S}, (∀ r0_0 r0_1 r0_2 r1 H, f r0_0 r0_1 r0_2 r1 H = (g r0_0 r0_1 r0_2 r1 H).bind k) → a R t0 t1 t2 H f = (a S t0 t1 t2 H g).bind k
def w20 (a20 : T20) : Fun := fun R args H K => match args with
  | [(V.i .u16 t0), (V.i .u16 t1), (V.i .u8 t2)] => a20 R t0 t1 t2 H (fun r0_0 r0_1 r0_2 r1 H => K (V.tup [(V.agg [(V.i .u16 r0_0), (V.i .u16 r0_1), (V.i .u8 r0_2)]), (V.i .i64 r1)]) H)
  | _ => none
theorem w20_lin {a : T20} (l : Lin20 a) : FunLin (w20 a) := by
  intro R S args H f g k h
  unfold w20
  split
  · exact l.l fun _ _ _ _ _ => h _ _
  · rfl
/-- labels.Other -/
abbrev T21 := (R : Type) → Int → Int → Int → Int → Heap → (Int → Bool → Heap → Option R) → Option R
structure Lin21 (a : T21) : Prop where
  l : ∀ {R S : Type} {k : S → Option R} {t0_0 : Int} {t0_1 : Int} {t0_2 : Int} {t1 : Int} {H : Heap} {f : Int → Bool → Heap → Option R} {g : Int → Bool → Heap → Option S}, (∀ r0 r1 H, f r0 r1 H = (g r0 r1 H).bind k) → a R t0_0 t0_1 t0_2 t1 H f = (a S t0_0 t0_1 t0_2 t1 H g).bind k
def w21 (a21 : T21) : Fun := fun R args H K => match args with
  | [(V.agg [(V.i .u16 t0_0), (V.i .u16 t0_1), (V.i .u8 t0_2)]), (V.i .u16 t1)] => a21 R t0_0 t0_1 t0_2 t1 H (fun r0 r1 H => K (V.tup [(V.i .u16 r0), (V.b r1)]) H)
  | _ => none
theorem w21_lin {a : T21} (l : Lin21 a) : FunLin (w21 a) := by
  intro R S args H f g k h
  unfold w21
  split
  · exact l.l fun _ _ _ => h _ _
  · rfl
/-- pointcodelaw12.LabelsLinks -/
abbrev T7 := (R : Type) → Int → Int → Int → Int → Int → Int → Int → Heap → (Bool → Heap → Option R) → Option R
structure Lin7 (a : T7) : Prop where
  l : ∀ {R S : Type} {k : S → Option R} {t0 : Int} {t1 : Int} {t2_0 : Int} {t2_1 : Int} {t2_2 : Int} {t2_3 : Int} {t2_4 : Int} {H : Heap} {f : Bool → Heap → Option R} {g : Bool → Heap → Option S}, (∀ r0 H, f r0 H = (g r0 H).bind k) → a R t0 t1 t2_0 t2_1 t2_2 t2_3 t2_4 H f = (a S t0 t1 t2_0 t2_1 t2_2 t2_3 t2_4 H g).bind k
def w7 (a7 : T7) : Fun := fun R args H K => match args with
  | [(V.i .u16 t0), (V.i .u16 t1), (V.agg [(V.i .u8 t2_0), (V.i .u16 t2_1), (V.i .u16 t2_2), (V.i .u16 t2_3), (V.i .u8 t2_4)])] => a7 R t0 t1 t2_0 t2_1 t2_2 t2_3 t2_4 H (fun r0 H => K (V.b r0) H)
  | _ => none
theorem w7_lin {a : T7} (l : Lin7 a) : FunLin (w7 a) := by
  intro R S args H f g k h
  unfold w7
  split
  · exact l.l fun _ _ => h _ _
  · rfl
/-- (pointcodelaw12.M).Of -/
abbrev T22 := (R : Type) → Int → Int → Int → Int → Int → Int → Sl → Heap → (Int → Int → Int → Int → Int → Int → Sl → Heap → Option R) → Option R
structure Lin22 (a : T22) : Prop where
  l : ∀ {R S : Type} {k : S → Option R} {t0_0 : Int} {t0_1 : Int} {t0_2 : Int} {t0_3 : Int} {t0_4 : Int} {t0_5 : Int} {t0_6 : Sl} {H : Heap} {f : Int → Int → Int → Int → Int → Int → Sl → Heap → Option R} {g : Int → Int → Int → Int → Int → Int → Sl → Heap → Option S}, (∀ r0_0 r0_1 r0_2 r0_3 r0_4 r0_5 r0_6 H, f r0_0 r0_1 r0_2 r0_3 r0_4 r0_5 r0_6 H = (g r0_0 r0_1 r0_2 r0_3 r0_4 r0_5 r0_6 H).bind k) → a R t0_0 t0_1 t0_2 t0_3 t0_4 t0_5 t0_6 H f = (a S t0_0 t0_1 t0_2 t0_3 t0_4 t0_5 t0_6 H g).bind k
def w22 (a22 : T22) : Fun := fun R args H K => match args with
  | [(V.agg [(V.i .u8 t0_0), (V.i .u8 t0_1), (V.i .u8 t0_2), (V.i .u16 t0_3), (V.i .u16 t0_4), (V.i .u8 t0_5), (V.sl t0_6)])] => a22 R t0_0 t0_1 t0_2 t0_3 t0_4 t0_5 t0_6 H (fun r0_0 r0_1 r0_2 r0_3 r0_4 r0_5 r0_6 H => K (V.agg [(V.i .u8 r0_0), (V.i .u8 r0_1), (V.i .u8 r0_2), (V.i .u16 r0_3), (V.i .u16 r0_4), (V.i .u8 r0_5), (V.sl r0_6)]) H)
  | _ => none
theorem w22_lin {a : T22} (l : Lin22 a) : FunLin (w22 a) := by
  intro R S args H f g k h
  unfold w22
  split
  · exact l.l fun _ _ _ _ _ _ _ _ => h _ _
  · rfl
/-- pointcodelaw12.Octets -/
abbrev T23 := (R : Type) → Int → Int → Int → Int → Int → Int → Sl → Heap → (Sl → Heap → Option R) → Option R
structure Lin23 (a : T23) : Prop where
  l : ∀ {R S : Type} {k : S → Option R} {t0_0 : Int} {t0_1 : Int} {t0_2 : Int} {t0_3 : Int} {t0_4 : Int} {t0_5 : Int} {t0_6 : Sl} {H : Heap} {f : Sl → Heap → Option R} {g : Sl → Heap → Option S}, (∀ r0 H, f r0 H = (g r0 H).bind k) → a R t0_0 t0_1 t0_2 t0_3 t0_4 t0_5 t0_6 H f = (a S t0_0 t0_1 t0_2 t0_3 t0_4 t0_5 t0_6 H g).bind k
def w23 (a23 : T23) : Fun := fun R args H K => match args with
  | [(V.agg [(V.i .u8 t0_0), (V.i .u8 t0_1), (V.i .u8 t0_2), (V.i .u16 t0_3), (V.i .u16 t0_4), (V.i .u8 t0_5), (V.sl t0_6)])] => a23 R t0_0 t0_1 t0_2 t0_3 t0_4 t0_5 t0_6 H (fun r0 H => K (V.sl r0) H)
  | _ => none
theorem w23_lin {a : T23} (l : Lin23 a) : FunLin (w23 a) := by
  intro R S args H f g k h
  unfold w23
  split
  · exact l.l fun _ _ => h _ _
  · rfl
/-- slices.Clone[[]byte,byte] -/
abbrev T46 := (R : Type) → Sl → Heap → (Sl → Heap → Option R) → Option R
structure Lin46 (a : T46) : Prop where
  l : ∀ {R S : Type} {k : S → Option R} {t0 : Sl} {H : Heap} {f : Sl → Heap → Option R} {g : Sl → Heap → Option S}, (∀ r0 H, f r0 H = (g r0 H).bind k) → a R t0 H f = (a S t0 H g).bind k
def w46 (a46 : T46) : Fun := fun R args H K => match args with
  | [(V.sl t0)] => a46 R t0 H (fun r0 H => K (V.sl r0) H)
  | _ => none
theorem w46_lin {a : T46} (l : Lin46 a) : FunLin (w46 a) := by
  intro R S args H f g k h
  unfold w46
  split
  · exact l.l fun _ _ => h _ _
  · rfl
/-- slices.Clip[[]byte,byte] -/
abbrev T45 := (R : Type) → Sl → Heap → (Sl → Heap → Option R) → Option R
structure Lin45 (a : T45) : Prop where
  l : ∀ {R S : Type} {k : S → Option R} {t0 : Sl} {H : Heap} {f : Sl → Heap → Option R} {g : Sl → Heap → Option S}, (∀ r0 H, f r0 H = (g r0 H).bind k) → a R t0 H f = (a S t0 H g).bind k
def w45 (a45 : T45) : Fun := fun R args H K => match args with
  | [(V.sl t0)] => a45 R t0 H (fun r0 H => K (V.sl r0) H)
  | _ => none
theorem w45_lin {a : T45} (l : Lin45 a) : FunLin (w45 a) := by
  intro R S args H f g k h
  unfold w45
  split
  · exact l.l fun _ _ => h _ _
  · rfl
/-- labels.copied -/
abbrev T33 := (R : Type) → Sl → Heap → (Sl → Heap → Option R) → Option R
structure Lin33 (a : T33) : Prop where
  l : ∀ {R S : Type} {k : S → Option R} {t0 : Sl} {H : Heap} {f : Sl → Heap → Option R} {g : Sl → Heap → Option S}, (∀ r0 H, f r0 H = (g r0 H).bind k) → a R t0 H f = (a S t0 H g).bind k
def w33 (a33 : T33) : Fun := fun R args H K => match args with
  | [(V.sl t0)] => a33 R t0 H (fun r0 H => K (V.sl r0) H)
  | _ => none
theorem w33_lin {a : T33} (l : Lin33 a) : FunLin (w33 a) := by
  intro R S args H f g k h
  unfold w33
  split
  · exact l.l fun _ _ => h _ _
  · rfl
/-- labels.Decode -/
abbrev T24 := (R : Type) → Sl → Heap → (Int → Int → Int → Int → Int → Int → Sl → Int → Heap → Option R) → Option R
structure Lin24 (a : T24) : Prop where
  l : ∀ {R S : Type} {k : S → Option R} {t0 : Sl} {H : Heap} {f : Int → Int → Int → Int → Int → Int → Sl → Int → Heap → Option R} {g : Int → Int → Int → Int → Int → Int → Sl → Int → Heap → Option S}, (∀ r0_0 r0_1 r0_2 r0_3 r0_4 r0_5 r0_6 r1 H, f r0_0 r0_1 r0_2 r0_3 r0_4 r0_5 r0_6 r1 H = (g r0_0 r0_1 r0_2 r0_3 r0_4 r0_5 r0_6 r1 H).bind k) → a R t0 H f = (a S t0 H g).bind k
def w24 (a24 : T24) : Fun := fun R args H K => match args with
  | [(V.sl t0)] => a24 R t0 H (fun r0_0 r0_1 r0_2 r0_3 r0_4 r0_5 r0_6 r1 H => K (V.tup [(V.agg [(V.i .u8 r0_0), (V.i .u8 r0_1), (V.i .u8 r0_2), (V.i .u16 r0_3), (V.i .u16 r0_4), (V.i .u8 r0_5), (V.sl r0_6)]), (V.i .i64 r1)]) H)
  | _ => none
theorem w24_lin {a : T24} (l : Lin24 a) : FunLin (w24 a) := by
  intro R S args H f g k h
  unfold w24
  split
  · exact l.l fun _ _ _ _ _ _ _ _ _ => h _ _
  · rfl
/-- pointcodelaw12.same -/
abbrev T25 := (R : Type) → Int → Int → Int → Int → Int → Int → Sl → Int → Int → Int → Int → Int → Int → Sl → Heap → (Bool → Heap → Option R) → Option R
structure Lin25 (a : T25) : Prop where
  l : ∀ {R S : Type} {k : S → Option R} {t0_0 : Int} {t0_1 : Int} {t0_2 : Int} {t0_3 : Int} {t0_4 : Int} {t0_5 : Int} {t0_6 : Sl} {t1_0 : Int} {t1_1 : Int} {t1_2 : Int} {t1_3 : Int} {t1_4 : Int} {t1_5 : Int} {t1_6 : Sl} {H : Heap} {f : Bool → Heap → Option R} {g : Bool → Heap → Option S}, (∀ r0 H, f r0 H = (g r0 H).bind k) → a R t0_0 t0_1 t0_2 t0_3 t0_4 t0_5 t0_6 t1_0 t1_1 t1_2 t1_3 t1_4 t1_5 t1_6 H f = (a S t0_0 t0_1 t0_2 t0_3 t0_4 t0_5 t0_6 t1_0 t1_1 t1_2 t1_3 t1_4 t1_5 t1_6 H g).bind k
def w25 (a25 : T25) : Fun := fun R args H K => match args with
  | [(V.agg [(V.i .u8 t0_0), (V.i .u8 t0_1), (V.i .u8 t0_2), (V.i .u16 t0_3), (V.i .u16 t0_4), (V.i .u8 t0_5), (V.sl t0_6)]), (V.agg [(V.i .u8 t1_0), (V.i .u8 t1_1), (V.i .u8 t1_2), (V.i .u16 t1_3), (V.i .u16 t1_4), (V.i .u8 t1_5), (V.sl t1_6)])] => a25 R t0_0 t0_1 t0_2 t0_3 t0_4 t0_5 t0_6 t1_0 t1_1 t1_2 t1_3 t1_4 t1_5 t1_6 H (fun r0 H => K (V.b r0) H)
  | _ => none
theorem w25_lin {a : T25} (l : Lin25 a) : FunLin (w25 a) := by
  intro R S args H f g k h
  unfold w25
  split
  · exact l.l fun _ _ => h _ _
  · rfl
/-- pointcodelaw12.LabelsBack -/
abbrev T8 := (R : Type) → Int → Int → Int → Int → Int → Int → Sl → Sl → Heap → (Bool → Heap → Option R) → Option R
structure Lin8 (a : T8) : Prop where
  l : ∀ {R S : Type} {k : S → Option R} {t0_0 : Int} {t0_1 : Int} {t0_2 : Int} {t0_3 : Int} {t0_4 : Int} {t0_5 : Int} {t0_6 : Sl} {t1 : Sl} {H : Heap} {f : Bool → Heap → Option R} {g : Bool → Heap → Option S}, (∀ r0 H, f r0 H = (g r0 H).bind k) → a R t0_0 t0_1 t0_2 t0_3 t0_4 t0_5 t0_6 t1 H f = (a S t0_0 t0_1 t0_2 t0_3 t0_4 t0_5 t0_6 t1 H g).bind k
def w8 (a8 : T8) : Fun := fun R args H K => match args with
  | [(V.agg [(V.i .u8 t0_0), (V.i .u8 t0_1), (V.i .u8 t0_2), (V.i .u16 t0_3), (V.i .u16 t0_4), (V.i .u8 t0_5), (V.sl t0_6)]), (V.sl t1)] => a8 R t0_0 t0_1 t0_2 t0_3 t0_4 t0_5 t0_6 t1 H (fun r0 H => K (V.b r0) H)
  | _ => none
theorem w8_lin {a : T8} (l : Lin8 a) : FunLin (w8 a) := by
  intro R S args H f g k h
  unfold w8
  split
  · exact l.l fun _ _ => h _ _
  · rfl
/-- labels.Copy -/
abbrev T26 := (R : Type) → Int → Int → Int → Int → Int → Int → Sl → Heap → (Int → Int → Int → Int → Int → Int → Sl → Heap → Option R) → Option R
structure Lin26 (a : T26) : Prop where
  l : ∀ {R S : Type} {k : S → Option R} {t0_0 : Int} {t0_1 : Int} {t0_2 : Int} {t0_3 : Int} {t0_4 : Int} {t0_5 : Int} {t0_6 : Sl} {H : Heap} {f : Int → Int → Int → Int → Int → Int → Sl → Heap → Option R} {g : Int → Int → Int → Int → Int → Int → Sl → Heap → Option S}, (∀ r0_0 r0_1 r0_2 r0_3 r0_4 r0_5 r0_6 H, f r0_0 r0_1 r0_2 r0_3 r0_4 r0_5 r0_6 H = (g r0_0 r0_1 r0_2 r0_3 r0_4 r0_5 r0_6 H).bind k) → a R t0_0 t0_1 t0_2 t0_3 t0_4 t0_5 t0_6 H f = (a S t0_0 t0_1 t0_2 t0_3 t0_4 t0_5 t0_6 H g).bind k
def w26 (a26 : T26) : Fun := fun R args H K => match args with
  | [(V.agg [(V.i .u8 t0_0), (V.i .u8 t0_1), (V.i .u8 t0_2), (V.i .u16 t0_3), (V.i .u16 t0_4), (V.i .u8 t0_5), (V.sl t0_6)])] => a26 R t0_0 t0_1 t0_2 t0_3 t0_4 t0_5 t0_6 H (fun r0_0 r0_1 r0_2 r0_3 r0_4 r0_5 r0_6 H => K (V.agg [(V.i .u8 r0_0), (V.i .u8 r0_1), (V.i .u8 r0_2), (V.i .u16 r0_3), (V.i .u16 r0_4), (V.i .u8 r0_5), (V.sl r0_6)]) H)
  | _ => none
theorem w26_lin {a : T26} (l : Lin26 a) : FunLin (w26 a) := by
  intro R S args H f g k h
  unfold w26
  split
  · exact l.l fun _ _ _ _ _ _ _ _ => h _ _
  · rfl
/-- slices.Equal[[]byte,byte] -/
abbrev T34 := (R : Type) → Sl → Sl → Heap → (Bool → Heap → Option R) → Option R
structure Lin34 (a : T34) : Prop where
  l : ∀ {R S : Type} {k : S → Option R} {t0 : Sl} {t1 : Sl} {H : Heap} {f : Bool → Heap → Option R} {g : Bool → Heap → Option S}, (∀ r0 H, f r0 H = (g r0 H).bind k) → a R t0 t1 H f = (a S t0 t1 H g).bind k
def w34 (a34 : T34) : Fun := fun R args H K => match args with
  | [(V.sl t0), (V.sl t1)] => a34 R t0 t1 H (fun r0 H => K (V.b r0) H)
  | _ => none
theorem w34_lin {a : T34} (l : Lin34 a) : FunLin (w34 a) := by
  intro R S args H f g k h
  unfold w34
  split
  · exact l.l fun _ _ => h _ _
  · rfl
/-- labels.Same -/
abbrev T27 := (R : Type) → Int → Int → Int → Int → Int → Int → Sl → Int → Int → Int → Int → Int → Int → Sl → Heap → (Bool → Heap → Option R) → Option R
structure Lin27 (a : T27) : Prop where
  l : ∀ {R S : Type} {k : S → Option R} {t0_0 : Int} {t0_1 : Int} {t0_2 : Int} {t0_3 : Int} {t0_4 : Int} {t0_5 : Int} {t0_6 : Sl} {t1_0 : Int} {t1_1 : Int} {t1_2 : Int} {t1_3 : Int} {t1_4 : Int} {t1_5 : Int} {t1_6 : Sl} {H : Heap} {f : Bool → Heap → Option R} {g : Bool → Heap → Option S}, (∀ r0 H, f r0 H = (g r0 H).bind k) → a R t0_0 t0_1 t0_2 t0_3 t0_4 t0_5 t0_6 t1_0 t1_1 t1_2 t1_3 t1_4 t1_5 t1_6 H f = (a S t0_0 t0_1 t0_2 t0_3 t0_4 t0_5 t0_6 t1_0 t1_1 t1_2 t1_3 t1_4 t1_5 t1_6 H g).bind k
def w27 (a27 : T27) : Fun := fun R args H K => match args with
  | [(V.agg [(V.i .u8 t0_0), (V.i .u8 t0_1), (V.i .u8 t0_2), (V.i .u16 t0_3), (V.i .u16 t0_4), (V.i .u8 t0_5), (V.sl t0_6)]), (V.agg [(V.i .u8 t1_0), (V.i .u8 t1_1), (V.i .u8 t1_2), (V.i .u16 t1_3), (V.i .u16 t1_4), (V.i .u8 t1_5), (V.sl t1_6)])] => a27 R t0_0 t0_1 t0_2 t0_3 t0_4 t0_5 t0_6 t1_0 t1_1 t1_2 t1_3 t1_4 t1_5 t1_6 H (fun r0 H => K (V.b r0) H)
  | _ => none
theorem w27_lin {a : T27} (l : Lin27 a) : FunLin (w27 a) := by
  intro R S args H f g k h
  unfold w27
  split
  · exact l.l fun _ _ => h _ _
  · rfl
/-- pointcodelaw12.LabelsSame -/
abbrev T9 := (R : Type) → Int → Int → Int → Int → Int → Int → Sl → Int → Int → Int → Int → Int → Int → Sl → Int → Heap → (Bool → Heap → Option R) → Option R
structure Lin9 (a : T9) : Prop where
  l : ∀ {R S : Type} {k : S → Option R} {t0_0 : Int} {t0_1 : Int} {t0_2 : Int} {t0_3 : Int} {t0_4 : Int} {t0_5 : Int} {t0_6 : Sl} {t1_0 : Int} {t1_1 : Int} {t1_2 : Int} {t1_3 : Int} {t1_4 : Int} {t1_5 : Int} {t1_6 : Sl} {t2 : Int} {H : Heap} {f : Bool → Heap → Option R} {g : Bool → Heap → Option S}, (∀ r0 H, f r0 H = (g r0 H).bind k) → a R t0_0 t0_1 t0_2 t0_3 t0_4 t0_5 t0_6 t1_0 t1_1 t1_2 t1_3 t1_4 t1_5 t1_6 t2 H f = (a S t0_0 t0_1 t0_2 t0_3 t0_4 t0_5 t0_6 t1_0 t1_1 t1_2 t1_3 t1_4 t1_5 t1_6 t2 H g).bind k
def w9 (a9 : T9) : Fun := fun R args H K => match args with
  | [(V.agg [(V.i .u8 t0_0), (V.i .u8 t0_1), (V.i .u8 t0_2), (V.i .u16 t0_3), (V.i .u16 t0_4), (V.i .u8 t0_5), (V.sl t0_6)]), (V.agg [(V.i .u8 t1_0), (V.i .u8 t1_1), (V.i .u8 t1_2), (V.i .u16 t1_3), (V.i .u16 t1_4), (V.i .u8 t1_5), (V.sl t1_6)]), (V.i .u16 t2)] => a9 R t0_0 t0_1 t0_2 t0_3 t0_4 t0_5 t0_6 t1_0 t1_1 t1_2 t1_3 t1_4 t1_5 t1_6 t2 H (fun r0 H => K (V.b r0) H)
  | _ => none
theorem w9_lin {a : T9} (l : Lin9 a) : FunLin (w9 a) := by
  intro R S args H f g k h
  unfold w9
  split
  · exact l.l fun _ _ => h _ _
  · rfl
/-- cmp.isNaN[api.Point] -/
abbrev T47 := (R : Type) → Int → Heap → (Bool → Heap → Option R) → Option R
structure Lin47 (a : T47) : Prop where
  l : ∀ {R S : Type} {k : S → Option R} {t0 : Int} {H : Heap} {f : Bool → Heap → Option R} {g : Bool → Heap → Option S}, (∀ r0 H, f r0 H = (g r0 H).bind k) → a R t0 H f = (a S t0 H g).bind k
def w47 (a47 : T47) : Fun := fun R args H K => match args with
  | [(V.i .u16 t0)] => a47 R t0 H (fun r0 H => K (V.b r0) H)
  | _ => none
theorem w47_lin {a : T47} (l : Lin47 a) : FunLin (w47 a) := by
  intro R S args H f g k h
  unfold w47
  split
  · exact l.l fun _ _ => h _ _
  · rfl
/-- cmp.Compare[api.Point] -/
abbrev T36 := (R : Type) → Int → Int → Heap → (Int → Heap → Option R) → Option R
structure Lin36 (a : T36) : Prop where
  l : ∀ {R S : Type} {k : S → Option R} {t0 : Int} {t1 : Int} {H : Heap} {f : Int → Heap → Option R} {g : Int → Heap → Option S}, (∀ r0 H, f r0 H = (g r0 H).bind k) → a R t0 t1 H f = (a S t0 t1 H g).bind k
def w36 (a36 : T36) : Fun := fun R args H K => match args with
  | [(V.i .u16 t0), (V.i .u16 t1)] => a36 R t0 t1 H (fun r0 H => K (V.i .i64 r0) H)
  | _ => none
theorem w36_lin {a : T36} (l : Lin36 a) : FunLin (w36 a) := by
  intro R S args H f g k h
  unfold w36
  split
  · exact l.l fun _ _ => h _ _
  · rfl
/-- cmp.isNaN[uint8] -/
abbrev T48 := (R : Type) → Int → Heap → (Bool → Heap → Option R) → Option R
structure Lin48 (a : T48) : Prop where
  l : ∀ {R S : Type} {k : S → Option R} {t0 : Int} {H : Heap} {f : Bool → Heap → Option R} {g : Bool → Heap → Option S}, (∀ r0 H, f r0 H = (g r0 H).bind k) → a R t0 H f = (a S t0 H g).bind k
def w48 (a48 : T48) : Fun := fun R args H K => match args with
  | [(V.i .u8 t0)] => a48 R t0 H (fun r0 H => K (V.b r0) H)
  | _ => none
theorem w48_lin {a : T48} (l : Lin48 a) : FunLin (w48 a) := by
  intro R S args H f g k h
  unfold w48
  split
  · exact l.l fun _ _ => h _ _
  · rfl
/-- cmp.Compare[uint8] -/
abbrev T37 := (R : Type) → Int → Int → Heap → (Int → Heap → Option R) → Option R
structure Lin37 (a : T37) : Prop where
  l : ∀ {R S : Type} {k : S → Option R} {t0 : Int} {t1 : Int} {H : Heap} {f : Int → Heap → Option R} {g : Int → Heap → Option S}, (∀ r0 H, f r0 H = (g r0 H).bind k) → a R t0 t1 H f = (a S t0 t1 H g).bind k
def w37 (a37 : T37) : Fun := fun R args H K => match args with
  | [(V.i .u8 t0), (V.i .u8 t1)] => a37 R t0 t1 H (fun r0 H => K (V.i .i64 r0) H)
  | _ => none
theorem w37_lin {a : T37} (l : Lin37 a) : FunLin (w37 a) := by
  intro R S args H f g k h
  unfold w37
  split
  · exact l.l fun _ _ => h _ _
  · rfl
/-- cmp.Or[int] -/
abbrev T35 := (R : Type) → Sl → Heap → (Int → Heap → Option R) → Option R
structure Lin35 (a : T35) : Prop where
  l : ∀ {R S : Type} {k : S → Option R} {t0 : Sl} {H : Heap} {f : Int → Heap → Option R} {g : Int → Heap → Option S}, (∀ r0 H, f r0 H = (g r0 H).bind k) → a R t0 H f = (a S t0 H g).bind k
def w35 (a35 : T35) : Fun := fun R args H K => match args with
  | [(V.sl t0)] => a35 R t0 H (fun r0 H => K (V.i .i64 r0) H)
  | _ => none
theorem w35_lin {a : T35} (l : Lin35 a) : FunLin (w35 a) := by
  intro R S args H f g k h
  unfold w35
  split
  · exact l.l fun _ _ => h _ _
  · rfl
/-- labels.Compare -/
abbrev T28 := (R : Type) → Int → Int → Int → Int → Int → Int → Heap → (Int → Heap → Option R) → Option R
structure Lin28 (a : T28) : Prop where
  l : ∀ {R S : Type} {k : S → Option R} {t0_0 : Int} {t0_1 : Int} {t0_2 : Int} {t1_0 : Int} {t1_1 : Int} {t1_2 : Int} {H : Heap} {f : Int → Heap → Option R} {g : Int → Heap → Option S}, (∀ r0 H, f r0 H = (g r0 H).bind k) → a R t0_0 t0_1 t0_2 t1_0 t1_1 t1_2 H f = (a S t0_0 t0_1 t0_2 t1_0 t1_1 t1_2 H g).bind k
def w28 (a28 : T28) : Fun := fun R args H K => match args with
  | [(V.agg [(V.i .u16 t0_0), (V.i .u16 t0_1), (V.i .u8 t0_2)]), (V.agg [(V.i .u16 t1_0), (V.i .u16 t1_1), (V.i .u8 t1_2)])] => a28 R t0_0 t0_1 t0_2 t1_0 t1_1 t1_2 H (fun r0 H => K (V.i .i64 r0) H)
  | _ => none
theorem w28_lin {a : T28} (l : Lin28 a) : FunLin (w28 a) := by
  intro R S args H f g k h
  unfold w28
  split
  · exact l.l fun _ _ => h _ _
  · rfl
/-- pointcodelaw12.LabelsOrder -/
abbrev T10 := (R : Type) → Int → Int → Int → Int → Int → Int → Int → Int → Int → Heap → (Bool → Heap → Option R) → Option R
structure Lin10 (a : T10) : Prop where
  l : ∀ {R S : Type} {k : S → Option R} {t0_0 : Int} {t0_1 : Int} {t0_2 : Int} {t1_0 : Int} {t1_1 : Int} {t1_2 : Int} {t2_0 : Int} {t2_1 : Int} {t2_2 : Int} {H : Heap} {f : Bool → Heap → Option R} {g : Bool → Heap → Option S}, (∀ r0 H, f r0 H = (g r0 H).bind k) → a R t0_0 t0_1 t0_2 t1_0 t1_1 t1_2 t2_0 t2_1 t2_2 H f = (a S t0_0 t0_1 t0_2 t1_0 t1_1 t1_2 t2_0 t2_1 t2_2 H g).bind k
def w10 (a10 : T10) : Fun := fun R args H K => match args with
  | [(V.agg [(V.i .u16 t0_0), (V.i .u16 t0_1), (V.i .u8 t0_2)]), (V.agg [(V.i .u16 t1_0), (V.i .u16 t1_1), (V.i .u8 t1_2)]), (V.agg [(V.i .u16 t2_0), (V.i .u16 t2_1), (V.i .u8 t2_2)])] => a10 R t0_0 t0_1 t0_2 t1_0 t1_1 t1_2 t2_0 t2_1 t2_2 H (fun r0 H => K (V.b r0) H)
  | _ => none
theorem w10_lin {a : T10} (l : Lin10 a) : FunLin (w10 a) := by
  intro R S args H f g k h
  unfold w10
  split
  · exact l.l fun _ _ => h _ _
  · rfl
end Go.Proofs.YtgdkkpjmjnknoaaDoor


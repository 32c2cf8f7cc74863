/- Printed: types and contracts of the functions. -/
import Derived.Test.YtnjihofdmncckaaDoorAmC
import Derived.Test.YtnjihofdmncckaaDoorProg
namespace Go.Proofs.YtnjihofdmncckaaDoor
open Go AM Go.RowKit
set_option linter.unusedVariables false
theorem mixed : Tryd.prog.follows .mixedOrders = true := by kernel_rfl
def str0 : ByteArray := ⟨#[]⟩
def str1 : ByteArray := ⟨#[48, 49, 50, 51, 52, 53, 54, 55, 56, 57]⟩
/-- pointcodelaw35.lives -/
abbrev T5 := (R : Type) → Heap → (Bool → Heap → Option R) → Option R
structure Lin5 (a : T5) : Prop where
  l : ∀ {R S : Type} {k : S → Option R} {H : Heap} {f : Bool → Heap → Option R} {g : Bool → Heap → Option S}, (∀ r0 H, f r0 H = (g r0 H).bind k) → a R H f = (a S H g).bind k
def w5 (a5 : T5) : Fun := fun R args H K => match args with
  | [] => a5 R H (fun r0 H => K (V.b r0) H)
  | _ => none
theorem w5_lin {a : T5} (l : Lin5 a) : FunLin (w5 a) := by
  intro R S args H f g k h
  unfold w5
  split
  · exact l.l fun _ _ => h _ _
  · rfl
/-- strings.trimRightByte -/
abbrev T67 := (R : Type) → ByteArray → Int → Heap → (ByteArray → Heap → Option R) → Option R
structure Lin67 (a : T67) : Prop where
  l : ∀ {R S : Type} {k : S → Option R} {t0 : ByteArray} {t1 : Int} {H : Heap} {f : ByteArray → Heap → Option R} {g : ByteArray → Heap → Option S}, (∀ r0 H, f r0 H = (g r0 H).bind k) → a R t0 t1 H f = (a S t0 t1 H g).bind k
def w67 (a67 : T67) : Fun := fun R args H K => match args with
  | [(V.s t0), (V.i .u8 t1)] => a67 R t0 t1 H (fun r0 H => K (V.s r0) H)
  | _ => none
theorem w67_lin {a : T67} (l : Lin67 a) : FunLin (w67 a) := by
  intro R S args H f g k h
  unfold w67
  split
  · exact l.l fun _ _ => h _ _
  · rfl
/-- strings.trimLeftByte -/
abbrev T66 := (R : Type) → ByteArray → Int → Heap → (ByteArray → Heap → Option R) → Option R
structure Lin66 (a : T66) : Prop where
  l : ∀ {R S : Type} {k : S → Option R} {t0 : ByteArray} {t1 : Int} {H : Heap} {f : ByteArray → Heap → Option R} {g : ByteArray → Heap → Option S}, (∀ r0 H, f r0 H = (g r0 H).bind k) → a R t0 t1 H f = (a S t0 t1 H g).bind k
def w66 (a66 : T66) : Fun := fun R args H K => match args with
  | [(V.s t0), (V.i .u8 t1)] => a66 R t0 t1 H (fun r0 H => K (V.s r0) H)
  | _ => none
theorem w66_lin {a : T66} (l : Lin66 a) : FunLin (w66 a) := by
  intro R S args H f g k h
  unfold w66
  split
  · exact l.l fun _ _ => h _ _
  · rfl
/-- strings.makeASCIISet -/
abbrev T68 := (R : Type) → ByteArray → Heap → (List V → Bool → Heap → Option R) → Option R
structure Lin68 (a : T68) : Prop where
  l : ∀ {R S : Type} {k : S → Option R} {t0 : ByteArray} {H : Heap} {f : List V → Bool → Heap → Option R} {g : List V → Bool → Heap → Option S}, (∀ r0 r1 H, f r0 r1 H = (g r0 r1 H).bind k) → a R t0 H f = (a S t0 H g).bind k
def w68 (a68 : T68) : Fun := fun R args H K => match args with
  | [(V.s t0)] => a68 R t0 H (fun r0 r1 H => K (V.tup [(V.agg r0), (V.b r1)]) H)
  | _ => none
theorem w68_lin {a : T68} (l : Lin68 a) : FunLin (w68 a) := by
  intro R S args H f g k h
  unfold w68
  split
  · exact l.l fun _ _ _ => h _ _
  · rfl
/-- (*strings.asciiSet).contains -/
abbrev T87 := (R : Type) → Option (Nat × Nat) → Int → Heap → (Bool → Heap → Option R) → Option R
structure Lin87 (a : T87) : Prop where
  l : ∀ {R S : Type} {k : S → Option R} {t0 : Option (Nat × Nat)} {t1 : Int} {H : Heap} {f : Bool → Heap → Option R} {g : Bool → Heap → Option S}, (∀ r0 H, f r0 H = (g r0 H).bind k) → a R t0 t1 H f = (a S t0 t1 H g).bind k
def w87 (a87 : T87) : Fun := fun R args H K => match args with
  | [(V.p t0), (V.i .u8 t1)] => a87 R t0 t1 H (fun r0 H => K (V.b r0) H)
  | _ => none
theorem w87_lin {a : T87} (l : Lin87 a) : FunLin (w87 a) := by
  intro R S args H f g k h
  unfold w87
  split
  · exact l.l fun _ _ => h _ _
  · rfl
/-- strings.trimRightASCII -/
abbrev T70 := (R : Type) → ByteArray → Option (Nat × Nat) → Heap → (ByteArray → Heap → Option R) → Option R
structure Lin70 (a : T70) : Prop where
  l : ∀ {R S : Type} {k : S → Option R} {t0 : ByteArray} {t1 : Option (Nat × Nat)} {H : Heap} {f : ByteArray → Heap → Option R} {g : ByteArray → Heap → Option S}, (∀ r0 H, f r0 H = (g r0 H).bind k) → a R t0 t1 H f = (a S t0 t1 H g).bind k
def w70 (a70 : T70) : Fun := fun R args H K => match args with
  | [(V.s t0), (V.p t1)] => a70 R t0 t1 H (fun r0 H => K (V.s r0) H)
  | _ => none
theorem w70_lin {a : T70} (l : Lin70 a) : FunLin (w70 a) := by
  intro R S args H f g k h
  unfold w70
  split
  · exact l.l fun _ _ => h _ _
  · rfl
/-- strings.trimLeftASCII -/
abbrev T69 := (R : Type) → ByteArray → Option (Nat × Nat) → Heap → (ByteArray → Heap → Option R) → Option R
structure Lin69 (a : T69) : Prop where
  l : ∀ {R S : Type} {k : S → Option R} {t0 : ByteArray} {t1 : Option (Nat × Nat)} {H : Heap} {f : ByteArray → Heap → Option R} {g : ByteArray → Heap → Option S}, (∀ r0 H, f r0 H = (g r0 H).bind k) → a R t0 t1 H f = (a S t0 t1 H g).bind k
def w69 (a69 : T69) : Fun := fun R args H K => match args with
  | [(V.s t0), (V.p t1)] => a69 R t0 t1 H (fun r0 H => K (V.s r0) H)
  | _ => none
theorem w69_lin {a : T69} (l : Lin69 a) : FunLin (w69 a) := by
  intro R S args H f g k h
  unfold w69
  split
  · exact l.l fun _ _ => h _ _
  · rfl
/-- strings.Trim -/
abbrev T56 := (R : Type) → ByteArray → ByteArray → Heap → (ByteArray → Heap → Option R) → Option R
structure Lin56 (a : T56) : Prop where
  l : ∀ {R S : Type} {k : S → Option R} {t0 : ByteArray} {t1 : ByteArray} {H : Heap} {f : ByteArray → Heap → Option R} {g : ByteArray → Heap → Option S}, (∀ r0 H, f r0 H = (g r0 H).bind k) → a R t0 t1 H f = (a S t0 t1 H g).bind k
def w56 (a56 : T56) : Fun := fun R args H K => match args with
  | [(V.s t0), (V.s t1)] => a56 R t0 t1 H (fun r0 H => K (V.s r0) H)
  | _ => none
theorem w56_lin {a : T56} (l : Lin56 a) : FunLin (w56 a) := by
  intro R S args H f g k h
  unfold w56
  split
  · exact l.l fun _ _ => h _ _
  · rfl
/-- titles.IsDigits -/
abbrev T42 := (R : Type) → ByteArray → Heap → (Bool → Heap → Option R) → Option R
structure Lin42 (a : T42) : Prop where
  l : ∀ {R S : Type} {k : S → Option R} {t0 : ByteArray} {H : Heap} {f : Bool → Heap → Option R} {g : Bool → Heap → Option S}, (∀ r0 H, f r0 H = (g r0 H).bind k) → a R t0 H f = (a S t0 H g).bind k
def w42 (a42 : T42) : Fun := fun R args H K => match args with
  | [(V.s t0)] => a42 R t0 H (fun r0 H => K (V.b r0) H)
  | _ => none
theorem w42_lin {a : T42} (l : Lin42 a) : FunLin (w42 a) := by
  intro R S args H f g k h
  unfold w42
  split
  · exact l.l fun _ _ => h _ _
  · rfl
/-- calls.number -/
abbrev T25 := (R : Type) → ByteArray → Heap → (Bool → Heap → Option R) → Option R
structure Lin25 (a : T25) : Prop where
  l : ∀ {R S : Type} {k : S → Option R} {t0 : ByteArray} {H : Heap} {f : Bool → Heap → Option R} {g : Bool → Heap → Option S}, (∀ r0 H, f r0 H = (g r0 H).bind k) → a R t0 H f = (a S t0 H g).bind k
def w25 (a25 : T25) : Fun := fun R args H K => match args with
  | [(V.s t0)] => a25 R t0 H (fun r0 H => K (V.b r0) H)
  | _ => none
theorem w25_lin {a : T25} (l : Lin25 a) : FunLin (w25 a) := by
  intro R S args H f g k h
  unfold w25
  split
  · exact l.l fun _ _ => h _ _
  · rfl
/-- (calls.Message).valid -/
abbrev T19 := (R : Type) → Int → Int → ByteArray → ByteArray → Int → Heap → (Bool → Heap → Option R) → Option R
structure Lin19 (a : T19) : Prop where
  l : ∀ {R S : Type} {k : S → Option R} {t0_0 : Int} {t0_1 : Int} {t0_2 : ByteArray} {t0_3 : ByteArray} {t0_4 : Int} {H : Heap} {f : Bool → Heap → Option R} {g : Bool → Heap → Option S}, (∀ r0 H, f r0 H = (g r0 H).bind k) → a R t0_0 t0_1 t0_2 t0_3 t0_4 H f = (a S t0_0 t0_1 t0_2 t0_3 t0_4 H g).bind k
def w19 (a19 : T19) : Fun := fun R args H K => match args with
  | [(V.agg [(V.i .u8 t0_0), (V.i .i64 t0_1), (V.s t0_2), (V.s t0_3), (V.i .u8 t0_4)])] => a19 R t0_0 t0_1 t0_2 t0_3 t0_4 H (fun r0 H => K (V.b r0) H)
  | _ => none
theorem w19_lin {a : T19} (l : Lin19 a) : FunLin (w19 a) := by
  intro R S args H f g k h
  unfold w19
  split
  · exact l.l fun _ _ => h _ _
  · rfl
/-- slices.Clip[[]byte,byte] -/
abbrev T20 := (R : Type) → Sl → Heap → (Sl → Heap → Option R) → Option R
structure Lin20 (a : T20) : Prop where
  l : ∀ {R S : Type} {k : S → Option R} {t0 : Sl} {H : Heap} {f : Sl → Heap → Option R} {g : Sl → Heap → Option S}, (∀ r0 H, f r0 H = (g r0 H).bind k) → a R t0 H f = (a S t0 H g).bind k
def w20 (a20 : T20) : Fun := fun R args H K => match args with
  | [(V.sl t0)] => a20 R t0 H (fun r0 H => K (V.sl r0) H)
  | _ => none
theorem w20_lin {a : T20} (l : Lin20 a) : FunLin (w20 a) := by
  intro R S args H f g k h
  unfold w20
  split
  · exact l.l fun _ _ => h _ _
  · rfl
/-- calls.Encode -/
abbrev T6 := (R : Type) → Int → Int → ByteArray → ByteArray → Int → Heap → (Sl → Int → Heap → Option R) → Option R
structure Lin6 (a : T6) : Prop where
  l : ∀ {R S : Type} {k : S → Option R} {t0_0 : Int} {t0_1 : Int} {t0_2 : ByteArray} {t0_3 : ByteArray} {t0_4 : Int} {H : Heap} {f : Sl → Int → Heap → Option R} {g : Sl → Int → Heap → Option S}, (∀ r0 r1 H, f r0 r1 H = (g r0 r1 H).bind k) → a R t0_0 t0_1 t0_2 t0_3 t0_4 H f = (a S t0_0 t0_1 t0_2 t0_3 t0_4 H g).bind k
def w6 (a6 : T6) : Fun := fun R args H K => match args with
  | [(V.agg [(V.i .u8 t0_0), (V.i .i64 t0_1), (V.s t0_2), (V.s t0_3), (V.i .u8 t0_4)])] => a6 R t0_0 t0_1 t0_2 t0_3 t0_4 H (fun r0 r1 H => K (V.tup [(V.sl r0), (V.i .i64 r1)]) H)
  | _ => none
theorem w6_lin {a : T6} (l : Lin6 a) : FunLin (w6 a) := by
  intro R S args H f g k h
  unfold w6
  split
  · exact l.l fun _ _ _ => h _ _
  · rfl
/-- pointcodelaw35.number -/
abbrev T21 := (R : Type) → ByteArray → Heap → (Bool → Heap → Option R) → Option R
structure Lin21 (a : T21) : Prop where
  l : ∀ {R S : Type} {k : S → Option R} {t0 : ByteArray} {H : Heap} {f : Bool → Heap → Option R} {g : Bool → Heap → Option S}, (∀ r0 H, f r0 H = (g r0 H).bind k) → a R t0 H f = (a S t0 H g).bind k
def w21 (a21 : T21) : Fun := fun R args H K => match args with
  | [(V.s t0)] => a21 R t0 H (fun r0 H => K (V.b r0) H)
  | _ => none
theorem w21_lin {a : T21} (l : Lin21 a) : FunLin (w21 a) := by
  intro R S args H f g k h
  unfold w21
  split
  · exact l.l fun _ _ => h _ _
  · rfl
/-- pointcodelaw35.valid -/
abbrev T7 := (R : Type) → Int → Int → ByteArray → ByteArray → Int → Heap → (Bool → Heap → Option R) → Option R
structure Lin7 (a : T7) : Prop where
  l : ∀ {R S : Type} {k : S → Option R} {t0_0 : Int} {t0_1 : Int} {t0_2 : ByteArray} {t0_3 : ByteArray} {t0_4 : Int} {H : Heap} {f : Bool → Heap → Option R} {g : Bool → Heap → Option S}, (∀ r0 H, f r0 H = (g r0 H).bind k) → a R t0_0 t0_1 t0_2 t0_3 t0_4 H f = (a S t0_0 t0_1 t0_2 t0_3 t0_4 H g).bind k
def w7 (a7 : T7) : Fun := fun R args H K => match args with
  | [(V.agg [(V.i .u8 t0_0), (V.i .i64 t0_1), (V.s t0_2), (V.s t0_3), (V.i .u8 t0_4)])] => a7 R t0_0 t0_1 t0_2 t0_3 t0_4 H (fun r0 H => K (V.b r0) H)
  | _ => none
theorem w7_lin {a : T7} (l : Lin7 a) : FunLin (w7 a) := by
  intro R S args H f g k h
  unfold w7
  split
  · exact l.l fun _ _ => h _ _
  · rfl
/-- calls.text -/
abbrev T22 := (R : Type) → Sl → Heap → (ByteArray → Sl → Bool → Heap → Option R) → Option R
structure Lin22 (a : T22) : Prop where
  l : ∀ {R S : Type} {k : S → Option R} {t0 : Sl} {H : Heap} {f : ByteArray → Sl → Bool → Heap → Option R} {g : ByteArray → Sl → Bool → Heap → Option S}, (∀ r0 r1 r2 H, f r0 r1 r2 H = (g r0 r1 r2 H).bind k) → a R t0 H f = (a S t0 H g).bind k
def w22 (a22 : T22) : Fun := fun R args H K => match args with
  | [(V.sl t0)] => a22 R t0 H (fun r0 r1 r2 H => K (V.tup [(V.s r0), (V.sl r1), (V.b r2)]) H)
  | _ => none
theorem w22_lin {a : T22} (l : Lin22 a) : FunLin (w22 a) := by
  intro R S args H f g k h
  unfold w22
  split
  · exact l.l fun _ _ _ _ => h _ _
  · rfl
/-- calls.Decode -/
abbrev T8 := (R : Type) → Sl → Heap → (Int → Int → ByteArray → ByteArray → Int → Int → Heap → Option R) → Option R
structure Lin8 (a : T8) : Prop where
  l : ∀ {R S : Type} {k : S → Option R} {t0 : Sl} {H : Heap} {f : Int → Int → ByteArray → ByteArray → Int → Int → Heap → Option R} {g : Int → Int → ByteArray → ByteArray → Int → Int → Heap → Option S}, (∀ r0_0 r0_1 r0_2 r0_3 r0_4 r1 H, f r0_0 r0_1 r0_2 r0_3 r0_4 r1 H = (g r0_0 r0_1 r0_2 r0_3 r0_4 r1 H).bind k) → a R t0 H f = (a S t0 H g).bind k
def w8 (a8 : T8) : Fun := fun R args H K => match args with
  | [(V.sl t0)] => a8 R t0 H (fun r0_0 r0_1 r0_2 r0_3 r0_4 r1 H => K (V.tup [(V.agg [(V.i .u8 r0_0), (V.i .i64 r0_1), (V.s r0_2), (V.s r0_3), (V.i .u8 r0_4)]), (V.i .i64 r1)]) H)
  | _ => none
theorem w8_lin {a : T8} (l : Lin8 a) : FunLin (w8 a) := by
  intro R S args H f g k h
  unfold w8
  split
  · exact l.l fun _ _ _ _ _ _ _ => h _ _
  · rfl
/-- pointcodelaw35.CallsCode -/
abbrev T3 := (R : Type) → Int → Int → ByteArray → ByteArray → Int → Sl → Heap → (Bool → Heap → Option R) → Option R
structure Lin3 (a : T3) : Prop where
  l : ∀ {R S : Type} {k : S → Option R} {t0_0 : Int} {t0_1 : Int} {t0_2 : ByteArray} {t0_3 : ByteArray} {t0_4 : Int} {t1 : Sl} {H : Heap} {f : Bool → Heap → Option R} {g : Bool → Heap → Option S}, (∀ r0 H, f r0 H = (g r0 H).bind k) → a R t0_0 t0_1 t0_2 t0_3 t0_4 t1 H f = (a S t0_0 t0_1 t0_2 t0_3 t0_4 t1 H g).bind k
def w3 (a3 : T3) : Fun := fun R args H K => match args with
  | [(V.agg [(V.i .u8 t0_0), (V.i .i64 t0_1), (V.s t0_2), (V.s t0_3), (V.i .u8 t0_4)]), (V.sl t1)] => a3 R t0_0 t0_1 t0_2 t0_3 t0_4 t1 H (fun r0 H => K (V.b r0) H)
  | _ => none
theorem w3_lin {a : T3} (l : Lin3 a) : FunLin (w3 a) := by
  intro R S args H f g k h
  unfold w3
  split
  · exact l.l fun _ _ => h _ _
  · rfl
end Go.Proofs.YtnjihofdmncckaaDoor


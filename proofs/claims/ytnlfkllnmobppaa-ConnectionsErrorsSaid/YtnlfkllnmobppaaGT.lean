/- Printed: types and contracts of the functions. -/
import Derived.Test.YtnlfkllnmobppaaAmD
import Derived.Test.YtnlfkllnmobppaaProg
namespace Go.Proofs.Ytnlfkllnmobppaa
open Go AM Go.RowKit
set_option linter.unusedVariables false
theorem mixed : Try.prog.follows .mixedOrders = true := by kernel_rfl

/-- pointcodelaw27.lives -/
abbrev T9 := (R : Type) → Heap → (Bool → Heap → Option R) → Option R
structure Lin9 (a : T9) : Prop where
  l : ∀ {R S : Type} {k : S → Option R} {H : Heap} {f : Bool → Heap → Option R} {g : Bool → Heap → Option S}, (∀ r0 H, f r0 H = (g r0 H).bind k) → a R H f = (a S H g).bind k
def w9 (a9 : T9) : Fun := fun R args H K => match args with
  | [] => a9 R H (fun r0 H => K (V.b r0) H)
  | _ => none
theorem w9_lin {a : T9} (l : Lin9 a) : FunLin (w9 a) := by
  intro R S args H f g k h
  unfold w9
  split
  · exact l.l fun _ _ => h _ _
  · rfl
/-- connections.New -/
abbrev T31 := (R : Type) → Int → Int → Int → Int → Heap → (Option (Nat × Nat) → Int → Heap → Option R) → Option R
structure Lin31 (a : T31) : Prop where
  l : ∀ {R S : Type} {k : S → Option R} {t0_0 : Int} {t0_1 : Int} {t0_2 : Int} {t0_3 : Int} {H : Heap} {f : Option (Nat × Nat) → Int → Heap → Option R} {g : Option (Nat × Nat) → Int → Heap → Option S}, (∀ r0 r1 H, f r0 r1 H = (g r0 r1 H).bind k) → a R t0_0 t0_1 t0_2 t0_3 H f = (a S t0_0 t0_1 t0_2 t0_3 H g).bind k
def w31 (a31 : T31) : Fun := fun R args H K => match args with
  | [(V.agg [(V.i .i64 t0_0), (V.i .i64 t0_1), (V.i .i64 t0_2), (V.i .i64 t0_3)])] => a31 R t0_0 t0_1 t0_2 t0_3 H (fun r0 r1 H => K (V.tup [(V.p r0), (V.i .i64 r1)]) H)
  | _ => none
theorem w31_lin {a : T31} (l : Lin31 a) : FunLin (w31 a) := by
  intro R S args H f g k h
  unfold w31
  split
  · exact l.l fun _ _ _ => h _ _
  · rfl
/-- pointcodelaw27.desks -/
abbrev T17 := (R : Type) → Int → Int → Int → Int → Heap → (Option (Nat × Nat) → Option (Nat × Nat) → Bool → Heap → Option R) → Option R
structure Lin17 (a : T17) : Prop where
  l : ∀ {R S : Type} {k : S → Option R} {t0_0 : Int} {t0_1 : Int} {t0_2 : Int} {t0_3 : Int} {H : Heap} {f : Option (Nat × Nat) → Option (Nat × Nat) → Bool → Heap → Option R} {g : Option (Nat × Nat) → Option (Nat × Nat) → Bool → Heap → Option S}, (∀ r0_0 r0_1 r1 H, f r0_0 r0_1 r1 H = (g r0_0 r0_1 r1 H).bind k) → a R t0_0 t0_1 t0_2 t0_3 H f = (a S t0_0 t0_1 t0_2 t0_3 H g).bind k
def w17 (a17 : T17) : Fun := fun R args H K => match args with
  | [(V.agg [(V.i .i64 t0_0), (V.i .i64 t0_1), (V.i .i64 t0_2), (V.i .i64 t0_3)])] => a17 R t0_0 t0_1 t0_2 t0_3 H (fun r0_0 r0_1 r1 H => K (V.tup [(V.agg [(V.p r0_0), (V.p r0_1)]), (V.b r1)]) H)
  | _ => none
theorem w17_lin {a : T17} (l : Lin17 a) : FunLin (w17 a) := by
  intro R S args H f g k h
  unfold w17
  split
  · exact l.l fun _ _ _ _ => h _ _
  · rfl
/-- (*connections.Desk).made -/
abbrev T37 := (R : Type) → Option (Nat × Nat) → Heap → (Bool → Heap → Option R) → Option R
structure Lin37 (a : T37) : Prop where
  l : ∀ {R S : Type} {k : S → Option R} {t0 : Option (Nat × Nat)} {H : Heap} {f : Bool → Heap → Option R} {g : Bool → Heap → Option S}, (∀ r0 H, f r0 H = (g r0 H).bind k) → a R t0 H f = (a S t0 H g).bind k
def w37 (a37 : T37) : Fun := fun R args H K => match args with
  | [(V.p t0)] => a37 R t0 H (fun r0 H => K (V.b r0) H)
  | _ => none
theorem w37_lin {a : T37} (l : Lin37 a) : FunLin (w37 a) := by
  intro R S args H f g k h
  unfold w37
  split
  · exact l.l fun _ _ => h _ _
  · rfl
/-- (*connections.Desk).add -/
abbrev T38 := (R : Type) → Option (Nat × Nat) → Int → Int → Int → Int → Heap → (Option (Nat × Nat) → Heap → Option R) → Option R
structure Lin38 (a : T38) : Prop where
  l : ∀ {R S : Type} {k : S → Option R} {t0 : Option (Nat × Nat)} {t1 : Int} {t2 : Int} {t3 : Int} {t4 : Int} {H : Heap} {f : Option (Nat × Nat) → Heap → Option R} {g : Option (Nat × Nat) → Heap → Option S}, (∀ r0 H, f r0 H = (g r0 H).bind k) → a R t0 t1 t2 t3 t4 H f = (a S t0 t1 t2 t3 t4 H g).bind k
def w38 (a38 : T38) : Fun := fun R args H K => match args with
  | [(V.p t0), (V.i .u16 t1), (V.i .u32 t2), (V.i .u8 t3), (V.i .u8 t4)] => a38 R t0 t1 t2 t3 t4 H (fun r0 H => K (V.p r0) H)
  | _ => none
theorem w38_lin {a : T38} (l : Lin38 a) : FunLin (w38 a) := by
  intro R S args H f g k h
  unfold w38
  split
  · exact l.l fun _ _ => h _ _
  · rfl
/-- slices.Clone[[]byte,byte] -/
abbrev T55 := (R : Type) → Sl → Heap → (Sl → Heap → Option R) → Option R
structure Lin55 (a : T55) : Prop where
  l : ∀ {R S : Type} {k : S → Option R} {t0 : Sl} {H : Heap} {f : Sl → Heap → Option R} {g : Sl → Heap → Option S}, (∀ r0 H, f r0 H = (g r0 H).bind k) → a R t0 H f = (a S t0 H g).bind k
def w55 (a55 : T55) : Fun := fun R args H K => match args with
  | [(V.sl t0)] => a55 R t0 H (fun r0 H => K (V.sl r0) H)
  | _ => none
theorem w55_lin {a : T55} (l : Lin55 a) : FunLin (w55 a) := by
  intro R S args H f g k h
  unfold w55
  split
  · exact l.l fun _ _ => h _ _
  · rfl
/-- slices.Clip[[]byte,byte] -/
abbrev T54 := (R : Type) → Sl → Heap → (Sl → Heap → Option R) → Option R
structure Lin54 (a : T54) : Prop where
  l : ∀ {R S : Type} {k : S → Option R} {t0 : Sl} {H : Heap} {f : Sl → Heap → Option R} {g : Sl → Heap → Option S}, (∀ r0 H, f r0 H = (g r0 H).bind k) → a R t0 H f = (a S t0 H g).bind k
def w54 (a54 : T54) : Fun := fun R args H K => match args with
  | [(V.sl t0)] => a54 R t0 H (fun r0 H => K (V.sl r0) H)
  | _ => none
theorem w54_lin {a : T54} (l : Lin54 a) : FunLin (w54 a) := by
  intro R S args H f g k h
  unfold w54
  split
  · exact l.l fun _ _ => h _ _
  · rfl
/-- connections.own -/
abbrev T36 := (R : Type) → Sl → Heap → (Sl → Heap → Option R) → Option R
structure Lin36 (a : T36) : Prop where
  l : ∀ {R S : Type} {k : S → Option R} {t0 : Sl} {H : Heap} {f : Sl → Heap → Option R} {g : Sl → Heap → Option S}, (∀ r0 H, f r0 H = (g r0 H).bind k) → a R t0 H f = (a S t0 H g).bind k
def w36 (a36 : T36) : Fun := fun R args H K => match args with
  | [(V.sl t0)] => a36 R t0 H (fun r0 H => K (V.sl r0) H)
  | _ => none
theorem w36_lin {a : T36} (l : Lin36 a) : FunLin (w36 a) := by
  intro R S args H f g k h
  unfold w36
  split
  · exact l.l fun _ _ => h _ _
  · rfl
/-- (*connections.Desk).send -/
abbrev T39 := (R : Type) → Option (Nat × Nat) → Option (Nat × Nat) → Int → Int → Int → Int → Int → Int → Int → Sl → Heap → (Heap → Option R) → Option R
structure Lin39 (a : T39) : Prop where
  l : ∀ {R S : Type} {k : S → Option R} {t0 : Option (Nat × Nat)} {t1 : Option (Nat × Nat)} {t2_0 : Int} {t2_1 : Int} {t2_2 : Int} {t2_3 : Int} {t2_4 : Int} {t2_5 : Int} {t2_6 : Int} {t2_7 : Sl} {H : Heap} {f : Heap → Option R} {g : Heap → Option S}, (∀ H, f H = (g H).bind k) → a R t0 t1 t2_0 t2_1 t2_2 t2_3 t2_4 t2_5 t2_6 t2_7 H f = (a S t0 t1 t2_0 t2_1 t2_2 t2_3 t2_4 t2_5 t2_6 t2_7 H g).bind k
def w39 (a39 : T39) : Fun := fun R args H K => match args with
  | [(V.p t0), (V.p t1), (V.agg [(V.i .u8 t2_0), (V.i .u32 t2_1), (V.i .u32 t2_2), (V.i .u8 t2_3), (V.i .u8 t2_4), (V.i .u8 t2_5), (V.i .u8 t2_6), (V.sl t2_7)])] => a39 R t0 t1 t2_0 t2_1 t2_2 t2_3 t2_4 t2_5 t2_6 t2_7 H (fun H => K (V.tup []) H)
  | _ => none
theorem w39_lin {a : T39} (l : Lin39 a) : FunLin (w39 a) := by
  intro R S args H f g k h
  unfold w39
  split
  · exact l.l fun _ => h _ _
  · rfl
/-- (*connections.Desk).Request -/
abbrev T18 := (R : Type) → Option (Nat × Nat) → Int → Int → Sl → Heap → (Int → Int → Heap → Option R) → Option R
structure Lin18 (a : T18) : Prop where
  l : ∀ {R S : Type} {k : S → Option R} {t0 : Option (Nat × Nat)} {t1 : Int} {t2 : Int} {t3 : Sl} {H : Heap} {f : Int → Int → Heap → Option R} {g : Int → Int → Heap → Option S}, (∀ r0 r1 H, f r0 r1 H = (g r0 r1 H).bind k) → a R t0 t1 t2 t3 H f = (a S t0 t1 t2 t3 H g).bind k
def w18 (a18 : T18) : Fun := fun R args H K => match args with
  | [(V.p t0), (V.i .u16 t1), (V.i .u8 t2), (V.sl t3)] => a18 R t0 t1 t2 t3 H (fun r0 r1 H => K (V.tup [(V.i .u32 r0), (V.i .i64 r1)]) H)
  | _ => none
theorem w18_lin {a : T18} (l : Lin18 a) : FunLin (w18 a) := by
  intro R S args H f g k h
  unfold w18
  split
  · exact l.l fun _ _ _ => h _ _
  · rfl
/-- (*connections.Desk).Open -/
abbrev T23 := (R : Type) → Option (Nat × Nat) → Heap → (Int → Heap → Option R) → Option R
structure Lin23 (a : T23) : Prop where
  l : ∀ {R S : Type} {k : S → Option R} {t0 : Option (Nat × Nat)} {H : Heap} {f : Int → Heap → Option R} {g : Int → Heap → Option S}, (∀ r0 H, f r0 H = (g r0 H).bind k) → a R t0 H f = (a S t0 H g).bind k
def w23 (a23 : T23) : Fun := fun R args H K => match args with
  | [(V.p t0)] => a23 R t0 H (fun r0 H => K (V.i .i64 r0) H)
  | _ => none
theorem w23_lin {a : T23} (l : Lin23 a) : FunLin (w23 a) := by
  intro R S args H f g k h
  unfold w23
  split
  · exact l.l fun _ _ => h _ _
  · rfl
/-- pointcodelaw27.same -/
abbrev T15 := (R : Type) → Int → Int → Int → Int → Int → Int → Int → Sl → Int → Int → Int → Int → Int → Int → Int → Sl → Heap → (Bool → Heap → Option R) → Option R
structure Lin15 (a : T15) : Prop where
  l : ∀ {R S : Type} {k : S → Option R} {t0_0 : Int} {t0_1 : Int} {t0_2 : Int} {t0_3 : Int} {t0_4 : Int} {t0_5 : Int} {t0_6 : Int} {t0_7 : Sl} {t1_0 : Int} {t1_1 : Int} {t1_2 : Int} {t1_3 : Int} {t1_4 : Int} {t1_5 : Int} {t1_6 : Int} {t1_7 : Sl} {H : Heap} {f : Bool → Heap → Option R} {g : Bool → Heap → Option S}, (∀ r0 H, f r0 H = (g r0 H).bind k) → a R t0_0 t0_1 t0_2 t0_3 t0_4 t0_5 t0_6 t0_7 t1_0 t1_1 t1_2 t1_3 t1_4 t1_5 t1_6 t1_7 H f = (a S t0_0 t0_1 t0_2 t0_3 t0_4 t0_5 t0_6 t0_7 t1_0 t1_1 t1_2 t1_3 t1_4 t1_5 t1_6 t1_7 H g).bind k
def w15 (a15 : T15) : Fun := fun R args H K => match args with
  | [(V.agg [(V.i .u8 t0_0), (V.i .u32 t0_1), (V.i .u32 t0_2), (V.i .u8 t0_3), (V.i .u8 t0_4), (V.i .u8 t0_5), (V.i .u8 t0_6), (V.sl t0_7)]), (V.agg [(V.i .u8 t1_0), (V.i .u32 t1_1), (V.i .u32 t1_2), (V.i .u8 t1_3), (V.i .u8 t1_4), (V.i .u8 t1_5), (V.i .u8 t1_6), (V.sl t1_7)])] => a15 R t0_0 t0_1 t0_2 t0_3 t0_4 t0_5 t0_6 t0_7 t1_0 t1_1 t1_2 t1_3 t1_4 t1_5 t1_6 t1_7 H (fun r0 H => K (V.b r0) H)
  | _ => none
theorem w15_lin {a : T15} (l : Lin15 a) : FunLin (w15 a) := by
  intro R S args H f g k h
  unfold w15
  split
  · exact l.l fun _ _ => h _ _
  · rfl
/-- pointcodelaw27.check -/
abbrev T10 := (R : Type) → Int → Int → Int → Int → Int → Int → Int → Sl → Heap → (Int → Heap → Option R) → Option R
structure Lin10 (a : T10) : Prop where
  l : ∀ {R S : Type} {k : S → Option R} {t0_0 : Int} {t0_1 : Int} {t0_2 : Int} {t0_3 : Int} {t0_4 : Int} {t0_5 : Int} {t0_6 : Int} {t0_7 : Sl} {H : Heap} {f : Int → Heap → Option R} {g : Int → Heap → Option S}, (∀ r0 H, f r0 H = (g r0 H).bind k) → a R t0_0 t0_1 t0_2 t0_3 t0_4 t0_5 t0_6 t0_7 H f = (a S t0_0 t0_1 t0_2 t0_3 t0_4 t0_5 t0_6 t0_7 H g).bind k
def w10 (a10 : T10) : Fun := fun R args H K => match args with
  | [(V.agg [(V.i .u8 t0_0), (V.i .u32 t0_1), (V.i .u32 t0_2), (V.i .u8 t0_3), (V.i .u8 t0_4), (V.i .u8 t0_5), (V.i .u8 t0_6), (V.sl t0_7)])] => a10 R t0_0 t0_1 t0_2 t0_3 t0_4 t0_5 t0_6 t0_7 H (fun r0 H => K (V.i .i64 r0) H)
  | _ => none
theorem w10_lin {a : T10} (l : Lin10 a) : FunLin (w10 a) := by
  intro R S args H f g k h
  unfold w10
  split
  · exact l.l fun _ _ => h _ _
  · rfl
/-- connections.Check -/
abbrev T12 := (R : Type) → Int → Int → Int → Int → Int → Int → Int → Sl → Heap → (Int → Heap → Option R) → Option R
structure Lin12 (a : T12) : Prop where
  l : ∀ {R S : Type} {k : S → Option R} {t0_0 : Int} {t0_1 : Int} {t0_2 : Int} {t0_3 : Int} {t0_4 : Int} {t0_5 : Int} {t0_6 : Int} {t0_7 : Sl} {H : Heap} {f : Int → Heap → Option R} {g : Int → Heap → Option S}, (∀ r0 H, f r0 H = (g r0 H).bind k) → a R t0_0 t0_1 t0_2 t0_3 t0_4 t0_5 t0_6 t0_7 H f = (a S t0_0 t0_1 t0_2 t0_3 t0_4 t0_5 t0_6 t0_7 H g).bind k
def w12 (a12 : T12) : Fun := fun R args H K => match args with
  | [(V.agg [(V.i .u8 t0_0), (V.i .u32 t0_1), (V.i .u32 t0_2), (V.i .u8 t0_3), (V.i .u8 t0_4), (V.i .u8 t0_5), (V.i .u8 t0_6), (V.sl t0_7)])] => a12 R t0_0 t0_1 t0_2 t0_3 t0_4 t0_5 t0_6 t0_7 H (fun r0 H => K (V.i .i64 r0) H)
  | _ => none
theorem w12_lin {a : T12} (l : Lin12 a) : FunLin (w12 a) := by
  intro R S args H f g k h
  unfold w12
  split
  · exact l.l fun _ _ => h _ _
  · rfl
/-- (*connections.Desk).tell -/
abbrev T56 := (R : Type) → Option (Nat × Nat) → Option (Nat × Nat) → Int → Int → Int → Int → Int → Sl → Heap → (Heap → Option R) → Option R
structure Lin56 (a : T56) : Prop where
  l : ∀ {R S : Type} {k : S → Option R} {t0 : Option (Nat × Nat)} {t1 : Option (Nat × Nat)} {t2_0 : Int} {t2_1 : Int} {t2_2 : Int} {t2_3 : Int} {t2_4 : Int} {t2_5 : Sl} {H : Heap} {f : Heap → Option R} {g : Heap → Option S}, (∀ H, f H = (g H).bind k) → a R t0 t1 t2_0 t2_1 t2_2 t2_3 t2_4 t2_5 H f = (a S t0 t1 t2_0 t2_1 t2_2 t2_3 t2_4 t2_5 H g).bind k
def w56 (a56 : T56) : Fun := fun R args H K => match args with
  | [(V.p t0), (V.p t1), (V.agg [(V.i .u32 t2_0), (V.i .u8 t2_1), (V.i .u16 t2_2), (V.i .u8 t2_3), (V.i .u8 t2_4), (V.sl t2_5)])] => a56 R t0 t1 t2_0 t2_1 t2_2 t2_3 t2_4 t2_5 H (fun H => K (V.tup []) H)
  | _ => none
theorem w56_lin {a : T56} (l : Lin56 a) : FunLin (w56 a) := by
  intro R S args H f g k h
  unfold w56
  split
  · exact l.l fun _ => h _ _
  · rfl
/-- (*connections.Desk).asked -/
abbrev T42 := (R : Type) → Option (Nat × Nat) → Int → Int → Int → Int → Int → Int → Int → Int → Sl → Heap → (Heap → Option R) → Option R
structure Lin42 (a : T42) : Prop where
  l : ∀ {R S : Type} {k : S → Option R} {t0 : Option (Nat × Nat)} {t1 : Int} {t2_0 : Int} {t2_1 : Int} {t2_2 : Int} {t2_3 : Int} {t2_4 : Int} {t2_5 : Int} {t2_6 : Int} {t2_7 : Sl} {H : Heap} {f : Heap → Option R} {g : Heap → Option S}, (∀ H, f H = (g H).bind k) → a R t0 t1 t2_0 t2_1 t2_2 t2_3 t2_4 t2_5 t2_6 t2_7 H f = (a S t0 t1 t2_0 t2_1 t2_2 t2_3 t2_4 t2_5 t2_6 t2_7 H g).bind k
def w42 (a42 : T42) : Fun := fun R args H K => match args with
  | [(V.p t0), (V.i .u16 t1), (V.agg [(V.i .u8 t2_0), (V.i .u32 t2_1), (V.i .u32 t2_2), (V.i .u8 t2_3), (V.i .u8 t2_4), (V.i .u8 t2_5), (V.i .u8 t2_6), (V.sl t2_7)])] => a42 R t0 t1 t2_0 t2_1 t2_2 t2_3 t2_4 t2_5 t2_6 t2_7 H (fun H => K (V.tup []) H)
  | _ => none
theorem w42_lin {a : T42} (l : Lin42 a) : FunLin (w42 a) := by
  intro R S args H f g k h
  unfold w42
  split
  · exact l.l fun _ => h _ _
  · rfl
/-- (*connections.Desk).belongs -/
abbrev T43 := (R : Type) → Option (Nat × Nat) → Int → Int → Int → Int → Int → Int → Int → Int → Sl → Heap → (Option (Nat × Nat) → Heap → Option R) → Option R
structure Lin43 (a : T43) : Prop where
  l : ∀ {R S : Type} {k : S → Option R} {t0 : Option (Nat × Nat)} {t1 : Int} {t2_0 : Int} {t2_1 : Int} {t2_2 : Int} {t2_3 : Int} {t2_4 : Int} {t2_5 : Int} {t2_6 : Int} {t2_7 : Sl} {H : Heap} {f : Option (Nat × Nat) → Heap → Option R} {g : Option (Nat × Nat) → Heap → Option S}, (∀ r0 H, f r0 H = (g r0 H).bind k) → a R t0 t1 t2_0 t2_1 t2_2 t2_3 t2_4 t2_5 t2_6 t2_7 H f = (a S t0 t1 t2_0 t2_1 t2_2 t2_3 t2_4 t2_5 t2_6 t2_7 H g).bind k
def w43 (a43 : T43) : Fun := fun R args H K => match args with
  | [(V.p t0), (V.i .u16 t1), (V.agg [(V.i .u8 t2_0), (V.i .u32 t2_1), (V.i .u32 t2_2), (V.i .u8 t2_3), (V.i .u8 t2_4), (V.i .u8 t2_5), (V.i .u8 t2_6), (V.sl t2_7)])] => a43 R t0 t1 t2_0 t2_1 t2_2 t2_3 t2_4 t2_5 t2_6 t2_7 H (fun r0 H => K (V.p r0) H)
  | _ => none
theorem w43_lin {a : T43} (l : Lin43 a) : FunLin (w43 a) := by
  intro R S args H f g k h
  unfold w43
  split
  · exact l.l fun _ _ => h _ _
  · rfl
/-- connections.actions -/
abbrev T44 := (R : Type) → Heap → (Option Nat → Heap → Option R) → Option R
structure Lin44 (a : T44) : Prop where
  l : ∀ {R S : Type} {k : S → Option R} {H : Heap} {f : Option Nat → Heap → Option R} {g : Option Nat → Heap → Option S}, (∀ r0 H, f r0 H = (g r0 H).bind k) → a R H f = (a S H g).bind k
def w44 (a44 : T44) : Fun := fun R args H K => match args with
  | [] => a44 R H (fun r0 H => K (V.m r0) H)
  | _ => none
theorem w44_lin {a : T44} (l : Lin44 a) : FunLin (w44 a) := by
  intro R S args H f g k h
  unfold w44
  split
  · exact l.l fun _ _ => h _ _
  · rfl
/-- (*connections.section).turn -/
abbrev T51 := (R : Type) → Option (Nat × Nat) → Int → Heap → (Heap → Option R) → Option R
structure Lin51 (a : T51) : Prop where
  l : ∀ {R S : Type} {k : S → Option R} {t0 : Option (Nat × Nat)} {t1 : Int} {H : Heap} {f : Heap → Option R} {g : Heap → Option S}, (∀ H, f H = (g H).bind k) → a R t0 t1 H f = (a S t0 t1 H g).bind k
def w51 (a51 : T51) : Fun := fun R args H K => match args with
  | [(V.p t0), (V.i .u8 t1)] => a51 R t0 t1 H (fun H => K (V.tup []) H)
  | _ => none
theorem w51_lin {a : T51} (l : Lin51 a) : FunLin (w51 a) := by
  intro R S args H f g k h
  unfold w51
  split
  · exact l.l fun _ => h _ _
  · rfl
/-- (*connections.Desk).confirm -/
abbrev T57 := (R : Type) → Option (Nat × Nat) → Option (Nat × Nat) → Int → Int → Int → Int → Int → Int → Int → Sl → Heap → (Heap → Option R) → Option R
structure Lin57 (a : T57) : Prop where
  l : ∀ {R S : Type} {k : S → Option R} {t0 : Option (Nat × Nat)} {t1 : Option (Nat × Nat)} {t2_0 : Int} {t2_1 : Int} {t2_2 : Int} {t2_3 : Int} {t2_4 : Int} {t2_5 : Int} {t2_6 : Int} {t2_7 : Sl} {H : Heap} {f : Heap → Option R} {g : Heap → Option S}, (∀ H, f H = (g H).bind k) → a R t0 t1 t2_0 t2_1 t2_2 t2_3 t2_4 t2_5 t2_6 t2_7 H f = (a S t0 t1 t2_0 t2_1 t2_2 t2_3 t2_4 t2_5 t2_6 t2_7 H g).bind k
def w57 (a57 : T57) : Fun := fun R args H K => match args with
  | [(V.p t0), (V.p t1), (V.agg [(V.i .u8 t2_0), (V.i .u32 t2_1), (V.i .u32 t2_2), (V.i .u8 t2_3), (V.i .u8 t2_4), (V.i .u8 t2_5), (V.i .u8 t2_6), (V.sl t2_7)])] => a57 R t0 t1 t2_0 t2_1 t2_2 t2_3 t2_4 t2_5 t2_6 t2_7 H (fun H => K (V.tup []) H)
  | _ => none
theorem w57_lin {a : T57} (l : Lin57 a) : FunLin (w57 a) := by
  intro R S args H f g k h
  unfold w57
  split
  · exact l.l fun _ => h _ _
  · rfl
/-- (*connections.Desk).over -/
abbrev T53 := (R : Type) → Option (Nat × Nat) → Option (Nat × Nat) → Heap → (Heap → Option R) → Option R
structure Lin53 (a : T53) : Prop where
  l : ∀ {R S : Type} {k : S → Option R} {t0 : Option (Nat × Nat)} {t1 : Option (Nat × Nat)} {H : Heap} {f : Heap → Option R} {g : Heap → Option S}, (∀ H, f H = (g H).bind k) → a R t0 t1 H f = (a S t0 t1 H g).bind k
def w53 (a53 : T53) : Fun := fun R args H K => match args with
  | [(V.p t0), (V.p t1)] => a53 R t0 t1 H (fun H => K (V.tup []) H)
  | _ => none
theorem w53_lin {a : T53} (l : Lin53 a) : FunLin (w53 a) := by
  intro R S args H f g k h
  unfold w53
  split
  · exact l.l fun _ => h _ _
  · rfl
/-- (*connections.Desk).refuse -/
abbrev T58 := (R : Type) → Option (Nat × Nat) → Option (Nat × Nat) → Int → Int → Int → Int → Int → Int → Int → Sl → Heap → (Heap → Option R) → Option R
structure Lin58 (a : T58) : Prop where
  l : ∀ {R S : Type} {k : S → Option R} {t0 : Option (Nat × Nat)} {t1 : Option (Nat × Nat)} {t2_0 : Int} {t2_1 : Int} {t2_2 : Int} {t2_3 : Int} {t2_4 : Int} {t2_5 : Int} {t2_6 : Int} {t2_7 : Sl} {H : Heap} {f : Heap → Option R} {g : Heap → Option S}, (∀ H, f H = (g H).bind k) → a R t0 t1 t2_0 t2_1 t2_2 t2_3 t2_4 t2_5 t2_6 t2_7 H f = (a S t0 t1 t2_0 t2_1 t2_2 t2_3 t2_4 t2_5 t2_6 t2_7 H g).bind k
def w58 (a58 : T58) : Fun := fun R args H K => match args with
  | [(V.p t0), (V.p t1), (V.agg [(V.i .u8 t2_0), (V.i .u32 t2_1), (V.i .u32 t2_2), (V.i .u8 t2_3), (V.i .u8 t2_4), (V.i .u8 t2_5), (V.i .u8 t2_6), (V.sl t2_7)])] => a58 R t0 t1 t2_0 t2_1 t2_2 t2_3 t2_4 t2_5 t2_6 t2_7 H (fun H => K (V.tup []) H)
  | _ => none
theorem w58_lin {a : T58} (l : Lin58 a) : FunLin (w58 a) := by
  intro R S args H f g k h
  unfold w58
  split
  · exact l.l fun _ => h _ _
  · rfl
/-- (*connections.Desk).close -/
abbrev T66 := (R : Type) → Option (Nat × Nat) → Option (Nat × Nat) → Int → Heap → (Heap → Option R) → Option R
structure Lin66 (a : T66) : Prop where
  l : ∀ {R S : Type} {k : S → Option R} {t0 : Option (Nat × Nat)} {t1 : Option (Nat × Nat)} {t2 : Int} {H : Heap} {f : Heap → Option R} {g : Heap → Option S}, (∀ H, f H = (g H).bind k) → a R t0 t1 t2 H f = (a S t0 t1 t2 H g).bind k
def w66 (a66 : T66) : Fun := fun R args H K => match args with
  | [(V.p t0), (V.p t1), (V.i .u8 t2)] => a66 R t0 t1 t2 H (fun H => K (V.tup []) H)
  | _ => none
theorem w66_lin {a : T66} (l : Lin66 a) : FunLin (w66 a) := by
  intro R S args H f g k h
  unfold w66
  split
  · exact l.l fun _ => h _ _
  · rfl
/-- (*connections.section).acknowledge -/
abbrev T68 := (R : Type) → Option (Nat × Nat) → Int → Heap → (Heap → Option R) → Option R
structure Lin68 (a : T68) : Prop where
  l : ∀ {R S : Type} {k : S → Option R} {t0 : Option (Nat × Nat)} {t1 : Int} {H : Heap} {f : Heap → Option R} {g : Heap → Option S}, (∀ H, f H = (g H).bind k) → a R t0 t1 H f = (a S t0 t1 H g).bind k
def w68 (a68 : T68) : Fun := fun R args H K => match args with
  | [(V.p t0), (V.i .u8 t1)] => a68 R t0 t1 H (fun H => K (V.tup []) H)
  | _ => none
theorem w68_lin {a : T68} (l : Lin68 a) : FunLin (w68 a) := by
  intro R S args H f g k h
  unfold w68
  split
  · exact l.l fun _ => h _ _
  · rfl
/-- (*connections.Desk).data -/
abbrev T59 := (R : Type) → Option (Nat × Nat) → Option (Nat × Nat) → Int → Int → Int → Int → Int → Int → Int → Sl → Heap → (Heap → Option R) → Option R
structure Lin59 (a : T59) : Prop where
  l : ∀ {R S : Type} {k : S → Option R} {t0 : Option (Nat × Nat)} {t1 : Option (Nat × Nat)} {t2_0 : Int} {t2_1 : Int} {t2_2 : Int} {t2_3 : Int} {t2_4 : Int} {t2_5 : Int} {t2_6 : Int} {t2_7 : Sl} {H : Heap} {f : Heap → Option R} {g : Heap → Option S}, (∀ H, f H = (g H).bind k) → a R t0 t1 t2_0 t2_1 t2_2 t2_3 t2_4 t2_5 t2_6 t2_7 H f = (a S t0 t1 t2_0 t2_1 t2_2 t2_3 t2_4 t2_5 t2_6 t2_7 H g).bind k
def w59 (a59 : T59) : Fun := fun R args H K => match args with
  | [(V.p t0), (V.p t1), (V.agg [(V.i .u8 t2_0), (V.i .u32 t2_1), (V.i .u32 t2_2), (V.i .u8 t2_3), (V.i .u8 t2_4), (V.i .u8 t2_5), (V.i .u8 t2_6), (V.sl t2_7)])] => a59 R t0 t1 t2_0 t2_1 t2_2 t2_3 t2_4 t2_5 t2_6 t2_7 H (fun H => K (V.tup []) H)
  | _ => none
theorem w59_lin {a : T59} (l : Lin59 a) : FunLin (w59 a) := by
  intro R S args H f g k h
  unfold w59
  split
  · exact l.l fun _ => h _ _
  · rfl
/-- (*connections.Desk).ack -/
abbrev T60 := (R : Type) → Option (Nat × Nat) → Option (Nat × Nat) → Int → Int → Int → Int → Int → Int → Int → Sl → Heap → (Heap → Option R) → Option R
structure Lin60 (a : T60) : Prop where
  l : ∀ {R S : Type} {k : S → Option R} {t0 : Option (Nat × Nat)} {t1 : Option (Nat × Nat)} {t2_0 : Int} {t2_1 : Int} {t2_2 : Int} {t2_3 : Int} {t2_4 : Int} {t2_5 : Int} {t2_6 : Int} {t2_7 : Sl} {H : Heap} {f : Heap → Option R} {g : Heap → Option S}, (∀ H, f H = (g H).bind k) → a R t0 t1 t2_0 t2_1 t2_2 t2_3 t2_4 t2_5 t2_6 t2_7 H f = (a S t0 t1 t2_0 t2_1 t2_2 t2_3 t2_4 t2_5 t2_6 t2_7 H g).bind k
def w60 (a60 : T60) : Fun := fun R args H K => match args with
  | [(V.p t0), (V.p t1), (V.agg [(V.i .u8 t2_0), (V.i .u32 t2_1), (V.i .u32 t2_2), (V.i .u8 t2_3), (V.i .u8 t2_4), (V.i .u8 t2_5), (V.i .u8 t2_6), (V.sl t2_7)])] => a60 R t0 t1 t2_0 t2_1 t2_2 t2_3 t2_4 t2_5 t2_6 t2_7 H (fun H => K (V.tup []) H)
  | _ => none
theorem w60_lin {a : T60} (l : Lin60 a) : FunLin (w60 a) := by
  intro R S args H f g k h
  unfold w60
  split
  · exact l.l fun _ => h _ _
  · rfl
/-- (*connections.Desk).release -/
abbrev T61 := (R : Type) → Option (Nat × Nat) → Option (Nat × Nat) → Int → Int → Int → Int → Int → Int → Int → Sl → Heap → (Heap → Option R) → Option R
structure Lin61 (a : T61) : Prop where
  l : ∀ {R S : Type} {k : S → Option R} {t0 : Option (Nat × Nat)} {t1 : Option (Nat × Nat)} {t2_0 : Int} {t2_1 : Int} {t2_2 : Int} {t2_3 : Int} {t2_4 : Int} {t2_5 : Int} {t2_6 : Int} {t2_7 : Sl} {H : Heap} {f : Heap → Option R} {g : Heap → Option S}, (∀ H, f H = (g H).bind k) → a R t0 t1 t2_0 t2_1 t2_2 t2_3 t2_4 t2_5 t2_6 t2_7 H f = (a S t0 t1 t2_0 t2_1 t2_2 t2_3 t2_4 t2_5 t2_6 t2_7 H g).bind k
def w61 (a61 : T61) : Fun := fun R args H K => match args with
  | [(V.p t0), (V.p t1), (V.agg [(V.i .u8 t2_0), (V.i .u32 t2_1), (V.i .u32 t2_2), (V.i .u8 t2_3), (V.i .u8 t2_4), (V.i .u8 t2_5), (V.i .u8 t2_6), (V.sl t2_7)])] => a61 R t0 t1 t2_0 t2_1 t2_2 t2_3 t2_4 t2_5 t2_6 t2_7 H (fun H => K (V.tup []) H)
  | _ => none
theorem w61_lin {a : T61} (l : Lin61 a) : FunLin (w61 a) := by
  intro R S args H f g k h
  unfold w61
  split
  · exact l.l fun _ => h _ _
  · rfl
/-- (*connections.Desk).complete -/
abbrev T62 := (R : Type) → Option (Nat × Nat) → Option (Nat × Nat) → Int → Int → Int → Int → Int → Int → Int → Sl → Heap → (Heap → Option R) → Option R
structure Lin62 (a : T62) : Prop where
  l : ∀ {R S : Type} {k : S → Option R} {t0 : Option (Nat × Nat)} {t1 : Option (Nat × Nat)} {t2_0 : Int} {t2_1 : Int} {t2_2 : Int} {t2_3 : Int} {t2_4 : Int} {t2_5 : Int} {t2_6 : Int} {t2_7 : Sl} {H : Heap} {f : Heap → Option R} {g : Heap → Option S}, (∀ H, f H = (g H).bind k) → a R t0 t1 t2_0 t2_1 t2_2 t2_3 t2_4 t2_5 t2_6 t2_7 H f = (a S t0 t1 t2_0 t2_1 t2_2 t2_3 t2_4 t2_5 t2_6 t2_7 H g).bind k
def w62 (a62 : T62) : Fun := fun R args H K => match args with
  | [(V.p t0), (V.p t1), (V.agg [(V.i .u8 t2_0), (V.i .u32 t2_1), (V.i .u32 t2_2), (V.i .u8 t2_3), (V.i .u8 t2_4), (V.i .u8 t2_5), (V.i .u8 t2_6), (V.sl t2_7)])] => a62 R t0 t1 t2_0 t2_1 t2_2 t2_3 t2_4 t2_5 t2_6 t2_7 H (fun H => K (V.tup []) H)
  | _ => none
theorem w62_lin {a : T62} (l : Lin62 a) : FunLin (w62 a) := by
  intro R S args H f g k h
  unfold w62
  split
  · exact l.l fun _ => h _ _
  · rfl
/-- (*connections.Desk).Hear -/
abbrev T25 := (R : Type) → Option (Nat × Nat) → Int → Int → Int → Int → Int → Int → Int → Int → Sl → Heap → (Int → Heap → Option R) → Option R
structure Lin25 (a : T25) : Prop where
  l : ∀ {R S : Type} {k : S → Option R} {t0 : Option (Nat × Nat)} {t1 : Int} {t2_0 : Int} {t2_1 : Int} {t2_2 : Int} {t2_3 : Int} {t2_4 : Int} {t2_5 : Int} {t2_6 : Int} {t2_7 : Sl} {H : Heap} {f : Int → Heap → Option R} {g : Int → Heap → Option S}, (∀ r0 H, f r0 H = (g r0 H).bind k) → a R t0 t1 t2_0 t2_1 t2_2 t2_3 t2_4 t2_5 t2_6 t2_7 H f = (a S t0 t1 t2_0 t2_1 t2_2 t2_3 t2_4 t2_5 t2_6 t2_7 H g).bind k
def w25 (a25 : T25) : Fun := fun R args H K => match args with
  | [(V.p t0), (V.i .u16 t1), (V.agg [(V.i .u8 t2_0), (V.i .u32 t2_1), (V.i .u32 t2_2), (V.i .u8 t2_3), (V.i .u8 t2_4), (V.i .u8 t2_5), (V.i .u8 t2_6), (V.sl t2_7)])] => a25 R t0 t1 t2_0 t2_1 t2_2 t2_3 t2_4 t2_5 t2_6 t2_7 H (fun r0 H => K (V.i .i64 r0) H)
  | _ => none
theorem w25_lin {a : T25} (l : Lin25 a) : FunLin (w25 a) := by
  intro R S args H f g k h
  unfold w25
  split
  · exact l.l fun _ _ => h _ _
  · rfl
/-- slices.Clip[[]connections.Letter,connections.Letter] -/
abbrev T41 := (R : Type) → Sl → Heap → (Sl → Heap → Option R) → Option R
structure Lin41 (a : T41) : Prop where
  l : ∀ {R S : Type} {k : S → Option R} {t0 : Sl} {H : Heap} {f : Sl → Heap → Option R} {g : Sl → Heap → Option S}, (∀ r0 H, f r0 H = (g r0 H).bind k) → a R t0 H f = (a S t0 H g).bind k
def w41 (a41 : T41) : Fun := fun R args H K => match args with
  | [(V.sl t0)] => a41 R t0 H (fun r0 H => K (V.sl r0) H)
  | _ => none
theorem w41_lin {a : T41} (l : Lin41 a) : FunLin (w41 a) := by
  intro R S args H f g k h
  unfold w41
  split
  · exact l.l fun _ _ => h _ _
  · rfl
/-- (*connections.Desk).Take -/
abbrev T24 := (R : Type) → Option (Nat × Nat) → Heap → (Sl → Heap → Option R) → Option R
structure Lin24 (a : T24) : Prop where
  l : ∀ {R S : Type} {k : S → Option R} {t0 : Option (Nat × Nat)} {H : Heap} {f : Sl → Heap → Option R} {g : Sl → Heap → Option S}, (∀ r0 H, f r0 H = (g r0 H).bind k) → a R t0 H f = (a S t0 H g).bind k
def w24 (a24 : T24) : Fun := fun R args H K => match args with
  | [(V.p t0)] => a24 R t0 H (fun r0 H => K (V.sl r0) H)
  | _ => none
theorem w24_lin {a : T24} (l : Lin24 a) : FunLin (w24 a) := by
  intro R S args H f g k h
  unfold w24
  split
  · exact l.l fun _ _ => h _ _
  · rfl
/-- slices.Clip[[]connections.Event,connections.Event] -/
abbrev T40 := (R : Type) → Sl → Heap → (Sl → Heap → Option R) → Option R
structure Lin40 (a : T40) : Prop where
  l : ∀ {R S : Type} {k : S → Option R} {t0 : Sl} {H : Heap} {f : Sl → Heap → Option R} {g : Sl → Heap → Option S}, (∀ r0 H, f r0 H = (g r0 H).bind k) → a R t0 H f = (a S t0 H g).bind k
def w40 (a40 : T40) : Fun := fun R args H K => match args with
  | [(V.sl t0)] => a40 R t0 H (fun r0 H => K (V.sl r0) H)
  | _ => none
theorem w40_lin {a : T40} (l : Lin40 a) : FunLin (w40 a) := by
  intro R S args H f g k h
  unfold w40
  split
  · exact l.l fun _ _ => h _ _
  · rfl
/-- (*connections.Desk).Events -/
abbrev T20 := (R : Type) → Option (Nat × Nat) → Heap → (Sl → Heap → Option R) → Option R
structure Lin20 (a : T20) : Prop where
  l : ∀ {R S : Type} {k : S → Option R} {t0 : Option (Nat × Nat)} {H : Heap} {f : Sl → Heap → Option R} {g : Sl → Heap → Option S}, (∀ r0 H, f r0 H = (g r0 H).bind k) → a R t0 H f = (a S t0 H g).bind k
def w20 (a20 : T20) : Fun := fun R args H K => match args with
  | [(V.p t0)] => a20 R t0 H (fun r0 H => K (V.sl r0) H)
  | _ => none
theorem w20_lin {a : T20} (l : Lin20 a) : FunLin (w20 a) := by
  intro R S args H f g k h
  unfold w20
  split
  · exact l.l fun _ _ => h _ _
  · rfl
/-- slices.Index[[]connections.state,connections.state] -/
abbrev T72 := (R : Type) → Sl → Int → Heap → (Int → Heap → Option R) → Option R
structure Lin72 (a : T72) : Prop where
  l : ∀ {R S : Type} {k : S → Option R} {t0 : Sl} {t1 : Int} {H : Heap} {f : Int → Heap → Option R} {g : Int → Heap → Option S}, (∀ r0 H, f r0 H = (g r0 H).bind k) → a R t0 t1 H f = (a S t0 t1 H g).bind k
def w72 (a72 : T72) : Fun := fun R args H K => match args with
  | [(V.sl t0), (V.i .u8 t1)] => a72 R t0 t1 H (fun r0 H => K (V.i .i64 r0) H)
  | _ => none
theorem w72_lin {a : T72} (l : Lin72 a) : FunLin (w72 a) := by
  intro R S args H f g k h
  unfold w72
  split
  · exact l.l fun _ _ => h _ _
  · rfl
/-- slices.Contains[[]connections.state,connections.state] -/
abbrev T67 := (R : Type) → Sl → Int → Heap → (Bool → Heap → Option R) → Option R
structure Lin67 (a : T67) : Prop where
  l : ∀ {R S : Type} {k : S → Option R} {t0 : Sl} {t1 : Int} {H : Heap} {f : Bool → Heap → Option R} {g : Bool → Heap → Option S}, (∀ r0 H, f r0 H = (g r0 H).bind k) → a R t0 t1 H f = (a S t0 t1 H g).bind k
def w67 (a67 : T67) : Fun := fun R args H K => match args with
  | [(V.sl t0), (V.i .u8 t1)] => a67 R t0 t1 H (fun r0 H => K (V.b r0) H)
  | _ => none
theorem w67_lin {a : T67} (l : Lin67 a) : FunLin (w67 a) := by
  intro R S args H f g k h
  unfold w67
  split
  · exact l.l fun _ _ => h _ _
  · rfl
/-- (*connections.Desk).known -/
abbrev T50 := (R : Type) → Option (Nat × Nat) → Int → Sl → Heap → (Option (Nat × Nat) → Int → Heap → Option R) → Option R
structure Lin50 (a : T50) : Prop where
  l : ∀ {R S : Type} {k : S → Option R} {t0 : Option (Nat × Nat)} {t1 : Int} {t2 : Sl} {H : Heap} {f : Option (Nat × Nat) → Int → Heap → Option R} {g : Option (Nat × Nat) → Int → Heap → Option S}, (∀ r0 r1 H, f r0 r1 H = (g r0 r1 H).bind k) → a R t0 t1 t2 H f = (a S t0 t1 t2 H g).bind k
def w50 (a50 : T50) : Fun := fun R args H K => match args with
  | [(V.p t0), (V.i .u32 t1), (V.sl t2)] => a50 R t0 t1 t2 H (fun r0 r1 H => K (V.tup [(V.p r0), (V.i .i64 r1)]) H)
  | _ => none
theorem w50_lin {a : T50} (l : Lin50 a) : FunLin (w50 a) := by
  intro R S args H f g k h
  unfold w50
  split
  · exact l.l fun _ _ _ => h _ _
  · rfl
/-- (*connections.Desk).Send -/
abbrev T28 := (R : Type) → Option (Nat × Nat) → Int → Sl → Heap → (Int → Heap → Option R) → Option R
structure Lin28 (a : T28) : Prop where
  l : ∀ {R S : Type} {k : S → Option R} {t0 : Option (Nat × Nat)} {t1 : Int} {t2 : Sl} {H : Heap} {f : Int → Heap → Option R} {g : Int → Heap → Option S}, (∀ r0 H, f r0 H = (g r0 H).bind k) → a R t0 t1 t2 H f = (a S t0 t1 t2 H g).bind k
def w28 (a28 : T28) : Fun := fun R args H K => match args with
  | [(V.p t0), (V.i .u32 t1), (V.sl t2)] => a28 R t0 t1 t2 H (fun r0 H => K (V.i .i64 r0) H)
  | _ => none
theorem w28_lin {a : T28} (l : Lin28 a) : FunLin (w28 a) := by
  intro R S args H f g k h
  unfold w28
  split
  · exact l.l fun _ _ => h _ _
  · rfl
/-- (*connections.Desk).Release -/
abbrev T32 := (R : Type) → Option (Nat × Nat) → Int → Int → Heap → (Int → Heap → Option R) → Option R
structure Lin32 (a : T32) : Prop where
  l : ∀ {R S : Type} {k : S → Option R} {t0 : Option (Nat × Nat)} {t1 : Int} {t2 : Int} {H : Heap} {f : Int → Heap → Option R} {g : Int → Heap → Option S}, (∀ r0 H, f r0 H = (g r0 H).bind k) → a R t0 t1 t2 H f = (a S t0 t1 t2 H g).bind k
def w32 (a32 : T32) : Fun := fun R args H K => match args with
  | [(V.p t0), (V.i .u32 t1), (V.i .u8 t2)] => a32 R t0 t1 t2 H (fun r0 H => K (V.i .i64 r0) H)
  | _ => none
theorem w32_lin {a : T32} (l : Lin32 a) : FunLin (w32 a) := by
  intro R S args H f g k h
  unfold w32
  split
  · exact l.l fun _ _ => h _ _
  · rfl
/-- (*connections.Desk).Refuse -/
abbrev T33 := (R : Type) → Option (Nat × Nat) → Int → Int → Heap → (Int → Heap → Option R) → Option R
structure Lin33 (a : T33) : Prop where
  l : ∀ {R S : Type} {k : S → Option R} {t0 : Option (Nat × Nat)} {t1 : Int} {t2 : Int} {H : Heap} {f : Int → Heap → Option R} {g : Int → Heap → Option S}, (∀ r0 H, f r0 H = (g r0 H).bind k) → a R t0 t1 t2 H f = (a S t0 t1 t2 H g).bind k
def w33 (a33 : T33) : Fun := fun R args H K => match args with
  | [(V.p t0), (V.i .u32 t1), (V.i .u8 t2)] => a33 R t0 t1 t2 H (fun r0 H => K (V.i .i64 r0) H)
  | _ => none
theorem w33_lin {a : T33} (l : Lin33 a) : FunLin (w33 a) := by
  intro R S args H f g k h
  unfold w33
  split
  · exact l.l fun _ _ => h _ _
  · rfl
/-- (*connections.Desk).Confirm -/
abbrev T27 := (R : Type) → Option (Nat × Nat) → Int → Heap → (Int → Heap → Option R) → Option R
structure Lin27 (a : T27) : Prop where
  l : ∀ {R S : Type} {k : S → Option R} {t0 : Option (Nat × Nat)} {t1 : Int} {H : Heap} {f : Int → Heap → Option R} {g : Int → Heap → Option S}, (∀ r0 H, f r0 H = (g r0 H).bind k) → a R t0 t1 H f = (a S t0 t1 H g).bind k
def w27 (a27 : T27) : Fun := fun R args H K => match args with
  | [(V.p t0), (V.i .u32 t1)] => a27 R t0 t1 H (fun r0 H => K (V.i .i64 r0) H)
  | _ => none
theorem w27_lin {a : T27} (l : Lin27 a) : FunLin (w27 a) := by
  intro R S args H f g k h
  unfold w27
  split
  · exact l.l fun _ _ => h _ _
  · rfl
/-- (*connections.Desk).Tick -/
abbrev T26 := (R : Type) → Option (Nat × Nat) → Heap → (Heap → Option R) → Option R
structure Lin26 (a : T26) : Prop where
  l : ∀ {R S : Type} {k : S → Option R} {t0 : Option (Nat × Nat)} {H : Heap} {f : Heap → Option R} {g : Heap → Option S}, (∀ H, f H = (g H).bind k) → a R t0 H f = (a S t0 H g).bind k
def w26 (a26 : T26) : Fun := fun R args H K => match args with
  | [(V.p t0)] => a26 R t0 H (fun H => K (V.tup []) H)
  | _ => none
theorem w26_lin {a : T26} (l : Lin26 a) : FunLin (w26 a) := by
  intro R S args H f g k h
  unfold w26
  split
  · exact l.l fun _ => h _ _
  · rfl
/-- pointcodelaw27.ConnectionsErrors -/
abbrev T7 := (R : Type) → Int → Int → Int → Int → Int → Int → Int → Int → Int → Int → Int → Sl → Int → Int → Int → Int → Heap → (Bool → Heap → Option R) → Option R
structure Lin7 (a : T7) : Prop where
  l : ∀ {R S : Type} {k : S → Option R} {t0_0 : Int} {t0_1 : Int} {t0_2 : Int} {t0_3 : Int} {t1_0 : Int} {t1_1 : Int} {t1_2 : Int} {t1_3 : Int} {t1_4 : Int} {t1_5 : Int} {t1_6 : Int} {t1_7 : Sl} {t2_0 : Int} {t2_1 : Int} {t2_2 : Int} {t2_3 : Int} {H : Heap} {f : Bool → Heap → Option R} {g : Bool → Heap → Option S}, (∀ r0 H, f r0 H = (g r0 H).bind k) → a R t0_0 t0_1 t0_2 t0_3 t1_0 t1_1 t1_2 t1_3 t1_4 t1_5 t1_6 t1_7 t2_0 t2_1 t2_2 t2_3 H f = (a S t0_0 t0_1 t0_2 t0_3 t1_0 t1_1 t1_2 t1_3 t1_4 t1_5 t1_6 t1_7 t2_0 t2_1 t2_2 t2_3 H g).bind k
def w7 (a7 : T7) : Fun := fun R args H K => match args with
  | [(V.agg [(V.i .i64 t0_0), (V.i .i64 t0_1), (V.i .i64 t0_2), (V.i .i64 t0_3)]), (V.agg [(V.i .u8 t1_0), (V.i .u32 t1_1), (V.i .u32 t1_2), (V.i .u8 t1_3), (V.i .u8 t1_4), (V.i .u8 t1_5), (V.i .u8 t1_6), (V.sl t1_7)]), (V.agg [(V.i .u16 t2_0), (V.i .u16 t2_1), (V.i .u16 t2_2), (V.i .u16 t2_3)])] => a7 R t0_0 t0_1 t0_2 t0_3 t1_0 t1_1 t1_2 t1_3 t1_4 t1_5 t1_6 t1_7 t2_0 t2_1 t2_2 t2_3 H (fun r0 H => K (V.b r0) H)
  | _ => none
theorem w7_lin {a : T7} (l : Lin7 a) : FunLin (w7 a) := by
  intro R S args H f g k h
  unfold w7
  split
  · exact l.l fun _ _ => h _ _
  · rfl
end Go.Proofs.Ytnlfkllnmobppaa


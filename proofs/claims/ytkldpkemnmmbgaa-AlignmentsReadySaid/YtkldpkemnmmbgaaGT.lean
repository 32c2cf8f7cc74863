/- Printed: types and contracts of the functions. -/
import Derived.Test.YtkldpkemnmmbgaaAmC
import Derived.Test.YtkldpkemnmmbgaaProg
namespace Go.Proofs.Ytkldpkemnmmbgaa
open Go AM Go.RowKit
set_option linter.unusedVariables false
theorem mixed : Try.prog.follows .mixedOrders = true := by kernel_rfl

/-- (pointcodelaw09.T).Of$1 -/
abbrev T25 := (R : Type) → Int → Heap → (Int → Heap → Option R) → Option R
structure Lin25 (a : T25) : Prop where
  l : ∀ {R S : Type} {k : S → Option R} {t0 : Int} {H : Heap} {f : Int → Heap → Option R} {g : Int → Heap → Option S}, (∀ r0 H, f r0 H = (g r0 H).bind k) → a R t0 H f = (a S t0 H g).bind k
def w25 (a25 : T25) : Fun := fun R args H K => match args with
  | [(V.i .u8 t0)] => a25 R t0 H (fun r0 H => K (V.i .i64 r0) H)
  | _ => none
theorem w25_lin {a : T25} (l : Lin25 a) : FunLin (w25 a) := by
  intro R S args H f g k h
  unfold w25
  split
  · exact l.l fun _ _ => h _ _
  · rfl
/-- (pointcodelaw09.T).Of -/
abbrev T9 := (R : Type) → Int → Int → Int → Int → Int → Int → Int → Heap → (Int → Int → Int → Int → Int → Int → Int → Heap → Option R) → Option R
structure Lin9 (a : T9) : Prop where
  l : ∀ {R S : Type} {k : S → Option R} {t0_0 : Int} {t0_1 : Int} {t0_2 : Int} {t0_3 : Int} {t0_4 : Int} {t0_5 : Int} {t0_6 : Int} {H : Heap} {f : Int → Int → Int → Int → Int → Int → Int → Heap → Option R} {g : Int → Int → Int → Int → Int → Int → Int → Heap → Option S}, (∀ r0_0 r0_1 r0_2 r0_3 r0_4 r0_5 r0_6 H, f r0_0 r0_1 r0_2 r0_3 r0_4 r0_5 r0_6 H = (g r0_0 r0_1 r0_2 r0_3 r0_4 r0_5 r0_6 H).bind k) → a R t0_0 t0_1 t0_2 t0_3 t0_4 t0_5 t0_6 H f = (a S t0_0 t0_1 t0_2 t0_3 t0_4 t0_5 t0_6 H g).bind k
def w9 (a9 : T9) : Fun := fun R args H K => match args with
  | [(V.agg [(V.i .u8 t0_0), (V.i .u8 t0_1), (V.i .u8 t0_2), (V.i .u8 t0_3), (V.i .u8 t0_4), (V.i .u8 t0_5), (V.i .u8 t0_6)])] => a9 R t0_0 t0_1 t0_2 t0_3 t0_4 t0_5 t0_6 H (fun r0_0 r0_1 r0_2 r0_3 r0_4 r0_5 r0_6 H => K (V.agg [(V.i .i64 r0_0), (V.i .i64 r0_1), (V.i .i64 r0_2), (V.i .i64 r0_3), (V.i .i64 r0_4), (V.i .i64 r0_5), (V.i .i64 r0_6)]) H)
  | _ => none
theorem w9_lin {a : T9} (l : Lin9 a) : FunLin (w9 a) := by
  intro R S args H f g k h
  unfold w9
  split
  · exact l.l fun _ _ _ _ _ _ _ _ => h _ _
  · rfl
/-- alignments.New$1 -/
abbrev T26 := (R : Type) → Int → Heap → (Bool → Heap → Option R) → Option R
structure Lin26 (a : T26) : Prop where
  l : ∀ {R S : Type} {k : S → Option R} {t0 : Int} {H : Heap} {f : Bool → Heap → Option R} {g : Bool → Heap → Option S}, (∀ r0 H, f r0 H = (g r0 H).bind k) → a R t0 H f = (a S t0 H g).bind k
def w26 (a26 : T26) : Fun := fun R args H K => match args with
  | [(V.i .i64 t0)] => a26 R t0 H (fun r0 H => K (V.b r0) H)
  | _ => none
theorem w26_lin {a : T26} (l : Lin26 a) : FunLin (w26 a) := by
  intro R S args H f g k h
  unfold w26
  split
  · exact l.l fun _ _ => h _ _
  · rfl
/-- slices.IndexFunc[[]int,int] -/
abbrev T37 := (R : Type) → Sl → Heap → (Int → Heap → Option R) → Option R
structure Lin37 (a : T37) : Prop where
  l : ∀ {R S : Type} {k : S → Option R} {t0 : Sl} {H : Heap} {f : Int → Heap → Option R} {g : Int → Heap → Option S}, (∀ r0 H, f r0 H = (g r0 H).bind k) → a R t0 H f = (a S t0 H g).bind k
def w37 (a37 : T37) : Fun := fun R args H K => match args with
  | [(V.sl t0), (V.fn (.func 26) [] [])] => a37 R t0 H (fun r0 H => K (V.i .i64 r0) H)
  | _ => none
theorem w37_lin {a : T37} (l : Lin37 a) : FunLin (w37 a) := by
  intro R S args H f g k h
  unfold w37
  split
  · exact l.l fun _ _ => h _ _
  · rfl
/-- slices.ContainsFunc[[]int,int] -/
abbrev T27 := (R : Type) → Sl → Heap → (Bool → Heap → Option R) → Option R
structure Lin27 (a : T27) : Prop where
  l : ∀ {R S : Type} {k : S → Option R} {t0 : Sl} {H : Heap} {f : Bool → Heap → Option R} {g : Bool → Heap → Option S}, (∀ r0 H, f r0 H = (g r0 H).bind k) → a R t0 H f = (a S t0 H g).bind k
def w27 (a27 : T27) : Fun := fun R args H K => match args with
  | [(V.sl t0), (V.fn (.func 26) [] [])] => a27 R t0 H (fun r0 H => K (V.b r0) H)
  | _ => none
theorem w27_lin {a : T27} (l : Lin27 a) : FunLin (w27 a) := by
  intro R S args H f g k h
  unfold w27
  split
  · exact l.l fun _ _ => h _ _
  · rfl
/-- alignments.New -/
abbrev T10 := (R : Type) → Int → Int → Int → Int → Int → Int → Int → Heap → (Option (Nat × Nat) → Int → Heap → Option R) → Option R
structure Lin10 (a : T10) : Prop where
  l : ∀ {R S : Type} {k : S → Option R} {t0_0 : Int} {t0_1 : Int} {t0_2 : Int} {t0_3 : Int} {t0_4 : Int} {t0_5 : Int} {t0_6 : Int} {H : Heap} {f : Option (Nat × Nat) → Int → Heap → Option R} {g : Option (Nat × Nat) → Int → Heap → Option S}, (∀ r0 r1 H, f r0 r1 H = (g r0 r1 H).bind k) → a R t0_0 t0_1 t0_2 t0_3 t0_4 t0_5 t0_6 H f = (a S t0_0 t0_1 t0_2 t0_3 t0_4 t0_5 t0_6 H g).bind k
def w10 (a10 : T10) : Fun := fun R args H K => match args with
  | [(V.agg [(V.i .i64 t0_0), (V.i .i64 t0_1), (V.i .i64 t0_2), (V.i .i64 t0_3), (V.i .i64 t0_4), (V.i .i64 t0_5), (V.i .i64 t0_6)])] => a10 R t0_0 t0_1 t0_2 t0_3 t0_4 t0_5 t0_6 H (fun r0 r1 H => K (V.tup [(V.p r0), (V.i .i64 r1)]) H)
  | _ => none
theorem w10_lin {a : T10} (l : Lin10 a) : FunLin (w10 a) := by
  intro R S args H f g k h
  unfold w10
  split
  · exact l.l fun _ _ _ => h _ _
  · rfl
/-- (*alignments.Alignment).none -/
abbrev T28 := (R : Type) → Option (Nat × Nat) → Heap → (Bool → Heap → Option R) → Option R
structure Lin28 (a : T28) : Prop where
  l : ∀ {R S : Type} {k : S → Option R} {t0 : Option (Nat × Nat)} {H : Heap} {f : Bool → Heap → Option R} {g : Bool → Heap → Option S}, (∀ r0 H, f r0 H = (g r0 H).bind k) → a R t0 H f = (a S t0 H g).bind k
def w28 (a28 : T28) : Fun := fun R args H K => match args with
  | [(V.p t0)] => a28 R t0 H (fun r0 H => K (V.b r0) H)
  | _ => none
theorem w28_lin {a : T28} (l : Lin28 a) : FunLin (w28 a) := by
  intro R S args H f g k h
  unfold w28
  split
  · exact l.l fun _ _ => h _ _
  · rfl
/-- monitors.valid$1 -/
abbrev T40 := (R : Type) → Int → Heap → (Bool → Heap → Option R) → Option R
structure Lin40 (a : T40) : Prop where
  l : ∀ {R S : Type} {k : S → Option R} {t0 : Int} {H : Heap} {f : Bool → Heap → Option R} {g : Bool → Heap → Option S}, (∀ r0 H, f r0 H = (g r0 H).bind k) → a R t0 H f = (a S t0 H g).bind k
def w40 (a40 : T40) : Fun := fun R args H K => match args with
  | [(V.i .i64 t0)] => a40 R t0 H (fun r0 H => K (V.b r0) H)
  | _ => none
theorem w40_lin {a : T40} (l : Lin40 a) : FunLin (w40 a) := by
  intro R S args H f g k h
  unfold w40
  split
  · exact l.l fun _ _ => h _ _
  · rfl
/-- slices.IndexFunc[[]int,int] -/
abbrev T37v1 := (R : Type) → Sl → Heap → (Int → Heap → Option R) → Option R
structure Lin37v1 (a : T37v1) : Prop where
  l : ∀ {R S : Type} {k : S → Option R} {t0 : Sl} {H : Heap} {f : Int → Heap → Option R} {g : Int → Heap → Option S}, (∀ r0 H, f r0 H = (g r0 H).bind k) → a R t0 H f = (a S t0 H g).bind k
def w37v1 (a37v1 : T37v1) : Fun := fun R args H K => match args with
  | [(V.sl t0), (V.fn (.func 40) [] [])] => a37v1 R t0 H (fun r0 H => K (V.i .i64 r0) H)
  | _ => none
theorem w37v1_lin {a : T37v1} (l : Lin37v1 a) : FunLin (w37v1 a) := by
  intro R S args H f g k h
  unfold w37v1
  split
  · exact l.l fun _ _ => h _ _
  · rfl
/-- slices.ContainsFunc[[]int,int] -/
abbrev T27v1 := (R : Type) → Sl → Heap → (Bool → Heap → Option R) → Option R
structure Lin27v1 (a : T27v1) : Prop where
  l : ∀ {R S : Type} {k : S → Option R} {t0 : Sl} {H : Heap} {f : Bool → Heap → Option R} {g : Bool → Heap → Option S}, (∀ r0 H, f r0 H = (g r0 H).bind k) → a R t0 H f = (a S t0 H g).bind k
def w27v1 (a27v1 : T27v1) : Fun := fun R args H K => match args with
  | [(V.sl t0), (V.fn (.func 40) [] [])] => a27v1 R t0 H (fun r0 H => K (V.b r0) H)
  | _ => none
theorem w27v1_lin {a : T27v1} (l : Lin27v1 a) : FunLin (w27v1 a) := by
  intro R S args H f g k h
  unfold w27v1
  split
  · exact l.l fun _ _ => h _ _
  · rfl
/-- monitors.valid -/
abbrev T39 := (R : Type) → Sl → Heap → (Bool → Heap → Option R) → Option R
structure Lin39 (a : T39) : Prop where
  l : ∀ {R S : Type} {k : S → Option R} {t0 : Sl} {H : Heap} {f : Bool → Heap → Option R} {g : Bool → Heap → Option S}, (∀ r0 H, f r0 H = (g r0 H).bind k) → a R t0 H f = (a S t0 H g).bind k
def w39 (a39 : T39) : Fun := fun R args H K => match args with
  | [(V.sl t0)] => a39 R t0 H (fun r0 H => K (V.b r0) H)
  | _ => none
theorem w39_lin {a : T39} (l : Lin39 a) : FunLin (w39 a) := by
  intro R S args H f g k h
  unfold w39
  split
  · exact l.l fun _ _ => h _ _
  · rfl
/-- monitors.NewSum -/
abbrev T38 := (R : Type) → Int → Heap → (V → Int → Heap → Option R) → Option R
structure Lin38 (a : T38) : Prop where
  l : ∀ {R S : Type} {k : S → Option R} {t0 : Int} {H : Heap} {f : V → Int → Heap → Option R} {g : V → Int → Heap → Option S}, (∀ r0 r1 H, f r0 r1 H = (g r0 r1 H).bind k) → a R t0 H f = (a S t0 H g).bind k
def w38 (a38 : T38) : Fun := fun R args H K => match args with
  | [(V.i .i64 t0)] => a38 R t0 H (fun r0 r1 H => K (V.tup [r0, (V.i .i64 r1)]) H)
  | _ => none
theorem w38_lin {a : T38} (l : Lin38 a) : FunLin (w38 a) := by
  intro R S args H f g k h
  unfold w38
  split
  · exact l.l fun _ _ _ => h _ _
  · rfl
/-- (*alignments.Alignment).enter -/
abbrev T29 := (R : Type) → Option (Nat × Nat) → Int → Heap → (Heap → Option R) → Option R
structure Lin29 (a : T29) : Prop where
  l : ∀ {R S : Type} {k : S → Option R} {t0 : Option (Nat × Nat)} {t1 : Int} {H : Heap} {f : Heap → Option R} {g : Heap → Option S}, (∀ H, f H = (g H).bind k) → a R t0 t1 H f = (a S t0 t1 H g).bind k
def w29 (a29 : T29) : Fun := fun R args H K => match args with
  | [(V.p t0), (V.i .u8 t1)] => a29 R t0 t1 H (fun H => K (V.tup []) H)
  | _ => none
theorem w29_lin {a : T29} (l : Lin29 a) : FunLin (w29 a) := by
  intro R S args H f g k h
  unfold w29
  split
  · exact l.l fun _ => h _ _
  · rfl
/-- (*alignments.Alignment).Start -/
abbrev T11 := (R : Type) → Option (Nat × Nat) → Bool → Heap → (Int → Heap → Option R) → Option R
structure Lin11 (a : T11) : Prop where
  l : ∀ {R S : Type} {k : S → Option R} {t0 : Option (Nat × Nat)} {t1 : Bool} {H : Heap} {f : Int → Heap → Option R} {g : Int → Heap → Option S}, (∀ r0 H, f r0 H = (g r0 H).bind k) → a R t0 t1 H f = (a S t0 t1 H g).bind k
def w11 (a11 : T11) : Fun := fun R args H K => match args with
  | [(V.p t0), (V.b t1)] => a11 R t0 t1 H (fun r0 H => K (V.i .i64 r0) H)
  | _ => none
theorem w11_lin {a : T11} (l : Lin11 a) : FunLin (w11 a) := by
  intro R S args H f g k h
  unfold w11
  split
  · exact l.l fun _ _ => h _ _
  · rfl
/-- (*alignments.Alignment).Tick -/
abbrev T12 := (R : Type) → Option (Nat × Nat) → Heap → (Int → Heap → Option R) → Option R
structure Lin12 (a : T12) : Prop where
  l : ∀ {R S : Type} {k : S → Option R} {t0 : Option (Nat × Nat)} {H : Heap} {f : Int → Heap → Option R} {g : Int → Heap → Option S}, (∀ r0 H, f r0 H = (g r0 H).bind k) → a R t0 H f = (a S t0 H g).bind k
def w12 (a12 : T12) : Fun := fun R args H K => match args with
  | [(V.p t0)] => a12 R t0 H (fun r0 H => K (V.i .i64 r0) H)
  | _ => none
theorem w12_lin {a : T12} (l : Lin12 a) : FunLin (w12 a) := by
  intro R S args H f g k h
  unfold w12
  split
  · exact l.l fun _ _ => h _ _
  · rfl
/-- (*alignments.Alignment).Phase -/
abbrev T13 := (R : Type) → Option (Nat × Nat) → Heap → (Int → Heap → Option R) → Option R
structure Lin13 (a : T13) : Prop where
  l : ∀ {R S : Type} {k : S → Option R} {t0 : Option (Nat × Nat)} {H : Heap} {f : Int → Heap → Option R} {g : Int → Heap → Option S}, (∀ r0 H, f r0 H = (g r0 H).bind k) → a R t0 H f = (a S t0 H g).bind k
def w13 (a13 : T13) : Fun := fun R args H K => match args with
  | [(V.p t0)] => a13 R t0 H (fun r0 H => K (V.i .u8 r0) H)
  | _ => none
theorem w13_lin {a : T13} (l : Lin13 a) : FunLin (w13 a) := by
  intro R S args H f g k h
  unfold w13
  split
  · exact l.l fun _ _ => h _ _
  · rfl
/-- (*alignments.Alignment).Sends -/
abbrev T30 := (R : Type) → Option (Nat × Nat) → Heap → (Int → Bool → Heap → Option R) → Option R
structure Lin30 (a : T30) : Prop where
  l : ∀ {R S : Type} {k : S → Option R} {t0 : Option (Nat × Nat)} {H : Heap} {f : Int → Bool → Heap → Option R} {g : Int → Bool → Heap → Option S}, (∀ r0 r1 H, f r0 r1 H = (g r0 r1 H).bind k) → a R t0 H f = (a S t0 H g).bind k
def w30 (a30 : T30) : Fun := fun R args H K => match args with
  | [(V.p t0)] => a30 R t0 H (fun r0 r1 H => K (V.tup [(V.i .u8 r0), (V.b r1)]) H)
  | _ => none
theorem w30_lin {a : T30} (l : Lin30 a) : FunLin (w30 a) := by
  intro R S args H f g k h
  unfold w30
  split
  · exact l.l fun _ _ _ => h _ _
  · rfl
/-- (*alignments.Alignment).aligned -/
abbrev T32 := (R : Type) → Option (Nat × Nat) → Int → Heap → (Heap → Option R) → Option R
structure Lin32 (a : T32) : Prop where
  l : ∀ {R S : Type} {k : S → Option R} {t0 : Option (Nat × Nat)} {t1 : Int} {H : Heap} {f : Heap → Option R} {g : Heap → Option S}, (∀ H, f H = (g H).bind k) → a R t0 t1 H f = (a S t0 t1 H g).bind k
def w32 (a32 : T32) : Fun := fun R args H K => match args with
  | [(V.p t0), (V.i .u8 t1)] => a32 R t0 t1 H (fun H => K (V.tup []) H)
  | _ => none
theorem w32_lin {a : T32} (l : Lin32 a) : FunLin (w32 a) := by
  intro R S args H f g k h
  unfold w32
  split
  · exact l.l fun _ => h _ _
  · rfl
/-- (*alignments.Alignment).proving -/
abbrev T33 := (R : Type) → Option (Nat × Nat) → Int → Heap → (Heap → Option R) → Option R
structure Lin33 (a : T33) : Prop where
  l : ∀ {R S : Type} {k : S → Option R} {t0 : Option (Nat × Nat)} {t1 : Int} {H : Heap} {f : Heap → Option R} {g : Heap → Option S}, (∀ H, f H = (g H).bind k) → a R t0 t1 H f = (a S t0 t1 H g).bind k
def w33 (a33 : T33) : Fun := fun R args H K => match args with
  | [(V.p t0), (V.i .u8 t1)] => a33 R t0 t1 H (fun H => K (V.tup []) H)
  | _ => none
theorem w33_lin {a : T33} (l : Lin33 a) : FunLin (w33 a) := by
  intro R S args H f g k h
  unfold w33
  split
  · exact l.l fun _ => h _ _
  · rfl
/-- (*alignments.Alignment).Hear -/
abbrev T17 := (R : Type) → Option (Nat × Nat) → Int → Heap → (Int → Heap → Option R) → Option R
structure Lin17 (a : T17) : Prop where
  l : ∀ {R S : Type} {k : S → Option R} {t0 : Option (Nat × Nat)} {t1 : Int} {H : Heap} {f : Int → Heap → Option R} {g : Int → Heap → Option S}, (∀ r0 H, f r0 H = (g r0 H).bind k) → a R t0 t1 H f = (a S t0 t1 H g).bind k
def w17 (a17 : T17) : Fun := fun R args H K => match args with
  | [(V.p t0), (V.i .u8 t1)] => a17 R t0 t1 H (fun r0 H => K (V.i .i64 r0) H)
  | _ => none
theorem w17_lin {a : T17} (l : Lin17 a) : FunLin (w17 a) := by
  intro R S args H f g k h
  unfold w17
  split
  · exact l.l fun _ _ => h _ _
  · rfl
/-- pointcodelaw09.exchange -/
abbrev T14 := (R : Type) → Option (Nat × Nat) → Option (Nat × Nat) → Heap → (Heap → Option R) → Option R
structure Lin14 (a : T14) : Prop where
  l : ∀ {R S : Type} {k : S → Option R} {t0 : Option (Nat × Nat)} {t1 : Option (Nat × Nat)} {H : Heap} {f : Heap → Option R} {g : Heap → Option S}, (∀ H, f H = (g H).bind k) → a R t0 t1 H f = (a S t0 t1 H g).bind k
def w14 (a14 : T14) : Fun := fun R args H K => match args with
  | [(V.p t0), (V.p t1)] => a14 R t0 t1 H (fun H => K (V.tup []) H)
  | _ => none
theorem w14_lin {a : T14} (l : Lin14 a) : FunLin (w14 a) := by
  intro R S args H f g k h
  unfold w14
  split
  · exact l.l fun _ => h _ _
  · rfl
/-- (*alignments.Alignment).Provings -/
abbrev T15 := (R : Type) → Option (Nat × Nat) → Heap → (Int → Heap → Option R) → Option R
structure Lin15 (a : T15) : Prop where
  l : ∀ {R S : Type} {k : S → Option R} {t0 : Option (Nat × Nat)} {H : Heap} {f : Int → Heap → Option R} {g : Int → Heap → Option S}, (∀ r0 H, f r0 H = (g r0 H).bind k) → a R t0 H f = (a S t0 H g).bind k
def w15 (a15 : T15) : Fun := fun R args H K => match args with
  | [(V.p t0)] => a15 R t0 H (fun r0 H => K (V.i .i64 r0) H)
  | _ => none
theorem w15_lin {a : T15} (l : Lin15 a) : FunLin (w15 a) := by
  intro R S args H f g k h
  unfold w15
  split
  · exact l.l fun _ _ => h _ _
  · rfl
/-- pointcodelaw09.lives -/
abbrev T16 := (R : Type) → Heap → (Bool → Heap → Option R) → Option R
structure Lin16 (a : T16) : Prop where
  l : ∀ {R S : Type} {k : S → Option R} {H : Heap} {f : Bool → Heap → Option R} {g : Bool → Heap → Option S}, (∀ r0 H, f r0 H = (g r0 H).bind k) → a R H f = (a S H g).bind k
def w16 (a16 : T16) : Fun := fun R args H K => match args with
  | [] => a16 R H (fun r0 H => K (V.b r0) H)
  | _ => none
theorem w16_lin {a : T16} (l : Lin16 a) : FunLin (w16 a) := by
  intro R S args H f g k h
  unfold w16
  split
  · exact l.l fun _ _ => h _ _
  · rfl
/-- pointcodelaw09.AlignmentsReady -/
abbrev T3 := (R : Type) → Int → Int → Int → Int → Int → Int → Int → Int → Int → Int → Int → Int → Int → Int → Bool → Bool → Int → Int → Heap → (Bool → Heap → Option R) → Option R
structure Lin3 (a : T3) : Prop where
  l : ∀ {R S : Type} {k : S → Option R} {t0_0 : Int} {t0_1 : Int} {t0_2 : Int} {t0_3 : Int} {t0_4 : Int} {t0_5 : Int} {t0_6 : Int} {t0_7 : Int} {t0_8 : Int} {t0_9 : Int} {t0_10 : Int} {t0_11 : Int} {t0_12 : Int} {t0_13 : Int} {t1_0 : Bool} {t1_1 : Bool} {t2_0 : Int} {t2_1 : Int} {H : Heap} {f : Bool → Heap → Option R} {g : Bool → Heap → Option S}, (∀ r0 H, f r0 H = (g r0 H).bind k) → a R t0_0 t0_1 t0_2 t0_3 t0_4 t0_5 t0_6 t0_7 t0_8 t0_9 t0_10 t0_11 t0_12 t0_13 t1_0 t1_1 t2_0 t2_1 H f = (a S t0_0 t0_1 t0_2 t0_3 t0_4 t0_5 t0_6 t0_7 t0_8 t0_9 t0_10 t0_11 t0_12 t0_13 t1_0 t1_1 t2_0 t2_1 H g).bind k
def w3 (a3 : T3) : Fun := fun R args H K => match args with
  | [(V.agg [(V.i .u8 t0_0), (V.i .u8 t0_1), (V.i .u8 t0_2), (V.i .u8 t0_3), (V.i .u8 t0_4), (V.i .u8 t0_5), (V.i .u8 t0_6), (V.i .u8 t0_7), (V.i .u8 t0_8), (V.i .u8 t0_9), (V.i .u8 t0_10), (V.i .u8 t0_11), (V.i .u8 t0_12), (V.i .u8 t0_13)]), (V.agg [(V.b t1_0), (V.b t1_1)]), (V.agg [(V.i .u8 t2_0), (V.i .u8 t2_1)])] => a3 R t0_0 t0_1 t0_2 t0_3 t0_4 t0_5 t0_6 t0_7 t0_8 t0_9 t0_10 t0_11 t0_12 t0_13 t1_0 t1_1 t2_0 t2_1 H (fun r0 H => K (V.b r0) H)
  | _ => none
theorem w3_lin {a : T3} (l : Lin3 a) : FunLin (w3 a) := by
  intro R S args H f g k h
  unfold w3
  split
  · exact l.l fun _ _ => h _ _
  · rfl
/-- (*alignments.Alignment).Left -/
abbrev T18 := (R : Type) → Option (Nat × Nat) → Heap → (Int → Heap → Option R) → Option R
structure Lin18 (a : T18) : Prop where
  l : ∀ {R S : Type} {k : S → Option R} {t0 : Option (Nat × Nat)} {H : Heap} {f : Int → Heap → Option R} {g : Int → Heap → Option S}, (∀ r0 H, f r0 H = (g r0 H).bind k) → a R t0 H f = (a S t0 H g).bind k
def w18 (a18 : T18) : Fun := fun R args H K => match args with
  | [(V.p t0)] => a18 R t0 H (fun r0 H => K (V.i .i64 r0) H)
  | _ => none
theorem w18_lin {a : T18} (l : Lin18 a) : FunLin (w18 a) := by
  intro R S args H f g k h
  unfold w18
  split
  · exact l.l fun _ _ => h _ _
  · rfl
/-- monitors.limited[int] -/
abbrev T61 := (R : Type) → Int → Int → Int → Heap → (Int → Heap → Option R) → Option R
structure Lin61 (a : T61) : Prop where
  l : ∀ {R S : Type} {k : S → Option R} {t0 : Int} {t1 : Int} {t2 : Int} {H : Heap} {f : Int → Heap → Option R} {g : Int → Heap → Option S}, (∀ r0 H, f r0 H = (g r0 H).bind k) → a R t0 t1 t2 H f = (a S t0 t1 t2 H g).bind k
def w61 (a61 : T61) : Fun := fun R args H K => match args with
  | [(V.i .i64 t0), (V.i .i64 t1), (V.i .i64 t2)] => a61 R t0 t1 t2 H (fun r0 H => K (V.i .i64 r0) H)
  | _ => none
theorem w61_lin {a : T61} (l : Lin61 a) : FunLin (w61 a) := by
  intro R S args H f g k h
  unfold w61
  split
  · exact l.l fun _ _ => h _ _
  · rfl
/-- (*monitors.gauge).add -/
abbrev T60 := (R : Type) → Option (Nat × Nat) → Int → Heap → (Heap → Option R) → Option R
structure Lin60 (a : T60) : Prop where
  l : ∀ {R S : Type} {k : S → Option R} {t0 : Option (Nat × Nat)} {t1 : Int} {H : Heap} {f : Heap → Option R} {g : Heap → Option S}, (∀ H, f H = (g H).bind k) → a R t0 t1 H f = (a S t0 t1 H g).bind k
def w60 (a60 : T60) : Fun := fun R args H K => match args with
  | [(V.p t0), (V.i .i64 t1)] => a60 R t0 t1 H (fun H => K (V.tup []) H)
  | _ => none
theorem w60_lin {a : T60} (l : Lin60 a) : FunLin (w60 a) := by
  intro R S args H f g k h
  unfold w60
  split
  · exact l.l fun _ => h _ _
  · rfl
/-- (*monitors.sum).Count -/
abbrev T56 := (R : Type) → Option (Nat × Nat) → Bool → Heap → (Heap → Option R) → Option R
structure Lin56 (a : T56) : Prop where
  l : ∀ {R S : Type} {k : S → Option R} {t0 : Option (Nat × Nat)} {t1 : Bool} {H : Heap} {f : Heap → Option R} {g : Heap → Option S}, (∀ H, f H = (g H).bind k) → a R t0 t1 H f = (a S t0 t1 H g).bind k
def w56 (a56 : T56) : Fun := fun R args H K => match args with
  | [(V.p t0), (V.b t1)] => a56 R t0 t1 H (fun H => K (V.tup []) H)
  | _ => none
theorem w56_lin {a : T56} (l : Lin56 a) : FunLin (w56 a) := by
  intro R S args H f g k h
  unfold w56
  split
  · exact l.l fun _ => h _ _
  · rfl
/-- (*monitors.gauge).Over -/
abbrev T58 := (R : Type) → Option (Nat × Nat) → Heap → (Bool → Heap → Option R) → Option R
structure Lin58 (a : T58) : Prop where
  l : ∀ {R S : Type} {k : S → Option R} {t0 : Option (Nat × Nat)} {H : Heap} {f : Bool → Heap → Option R} {g : Bool → Heap → Option S}, (∀ r0 H, f r0 H = (g r0 H).bind k) → a R t0 H f = (a S t0 H g).bind k
def w58 (a58 : T58) : Fun := fun R args H K => match args with
  | [(V.p t0)] => a58 R t0 H (fun r0 H => K (V.b r0) H)
  | _ => none
theorem w58_lin {a : T58} (l : Lin58 a) : FunLin (w58 a) := by
  intro R S args H f g k h
  unfold w58
  split
  · exact l.l fun _ _ => h _ _
  · rfl
/-- (*alignments.Alignment).Wrong -/
abbrev T19 := (R : Type) → Option (Nat × Nat) → Heap → (Int → Heap → Option R) → Option R
structure Lin19 (a : T19) : Prop where
  l : ∀ {R S : Type} {k : S → Option R} {t0 : Option (Nat × Nat)} {H : Heap} {f : Int → Heap → Option R} {g : Int → Heap → Option S}, (∀ r0 H, f r0 H = (g r0 H).bind k) → a R t0 H f = (a S t0 H g).bind k
def w19 (a19 : T19) : Fun := fun R args H K => match args with
  | [(V.p t0)] => a19 R t0 H (fun r0 H => K (V.i .i64 r0) H)
  | _ => none
theorem w19_lin {a : T19} (l : Lin19 a) : FunLin (w19 a) := by
  intro R S args H f g k h
  unfold w19
  split
  · exact l.l fun _ _ => h _ _
  · rfl
/-- pointcodelaw09.AlignmentsProving -/
abbrev T4 := (R : Type) → Int → Int → Int → Int → Int → Int → Int → Bool → Sl → Heap → (Bool → Heap → Option R) → Option R
structure Lin4 (a : T4) : Prop where
  l : ∀ {R S : Type} {k : S → Option R} {t0_0 : Int} {t0_1 : Int} {t0_2 : Int} {t0_3 : Int} {t0_4 : Int} {t0_5 : Int} {t0_6 : Int} {t1 : Bool} {t2 : Sl} {H : Heap} {f : Bool → Heap → Option R} {g : Bool → Heap → Option S}, (∀ r0 H, f r0 H = (g r0 H).bind k) → a R t0_0 t0_1 t0_2 t0_3 t0_4 t0_5 t0_6 t1 t2 H f = (a S t0_0 t0_1 t0_2 t0_3 t0_4 t0_5 t0_6 t1 t2 H g).bind k
def w4 (a4 : T4) : Fun := fun R args H K => match args with
  | [(V.agg [(V.i .u8 t0_0), (V.i .u8 t0_1), (V.i .u8 t0_2), (V.i .u8 t0_3), (V.i .u8 t0_4), (V.i .u8 t0_5), (V.i .u8 t0_6)]), (V.b t1), (V.sl t2)] => a4 R t0_0 t0_1 t0_2 t0_3 t0_4 t0_5 t0_6 t1 t2 H (fun r0 H => K (V.b r0) H)
  | _ => none
theorem w4_lin {a : T4} (l : Lin4 a) : FunLin (w4 a) := by
  intro R S args H f g k h
  unfold w4
  split
  · exact l.l fun _ _ => h _ _
  · rfl
/-- (*alignments.Alignment).Stop -/
abbrev T24 := (R : Type) → Option (Nat × Nat) → Heap → (Int → Heap → Option R) → Option R
structure Lin24 (a : T24) : Prop where
  l : ∀ {R S : Type} {k : S → Option R} {t0 : Option (Nat × Nat)} {H : Heap} {f : Int → Heap → Option R} {g : Int → Heap → Option S}, (∀ r0 H, f r0 H = (g r0 H).bind k) → a R t0 H f = (a S t0 H g).bind k
def w24 (a24 : T24) : Fun := fun R args H K => match args with
  | [(V.p t0)] => a24 R t0 H (fun r0 H => K (V.i .i64 r0) H)
  | _ => none
theorem w24_lin {a : T24} (l : Lin24 a) : FunLin (w24 a) := by
  intro R S args H f g k h
  unfold w24
  split
  · exact l.l fun _ _ => h _ _
  · rfl
/-- pointcodelaw09.perform -/
abbrev T20 := (R : Type) → Option (Nat × Nat) → Int → Heap → (Int → Heap → Option R) → Option R
structure Lin20 (a : T20) : Prop where
  l : ∀ {R S : Type} {k : S → Option R} {t0 : Option (Nat × Nat)} {t1 : Int} {H : Heap} {f : Int → Heap → Option R} {g : Int → Heap → Option S}, (∀ r0 H, f r0 H = (g r0 H).bind k) → a R t0 t1 H f = (a S t0 t1 H g).bind k
def w20 (a20 : T20) : Fun := fun R args H K => match args with
  | [(V.p t0), (V.i .u8 t1)] => a20 R t0 t1 H (fun r0 H => K (V.i .i64 r0) H)
  | _ => none
theorem w20_lin {a : T20} (l : Lin20 a) : FunLin (w20 a) := by
  intro R S args H f g k h
  unfold w20
  split
  · exact l.l fun _ _ => h _ _
  · rfl
/-- (*pointcodelaw09.model).end -/
abbrev T34 := (R : Type) → Option (Nat × Nat) → Int → Heap → (Heap → Option R) → Option R
structure Lin34 (a : T34) : Prop where
  l : ∀ {R S : Type} {k : S → Option R} {t0 : Option (Nat × Nat)} {t1 : Int} {H : Heap} {f : Heap → Option R} {g : Heap → Option S}, (∀ H, f H = (g H).bind k) → a R t0 t1 H f = (a S t0 t1 H g).bind k
def w34 (a34 : T34) : Fun := fun R args H K => match args with
  | [(V.p t0), (V.i .u8 t1)] => a34 R t0 t1 H (fun H => K (V.tup []) H)
  | _ => none
theorem w34_lin {a : T34} (l : Lin34 a) : FunLin (w34 a) := by
  intro R S args H f g k h
  unfold w34
  split
  · exact l.l fun _ => h _ _
  · rfl
/-- (*pointcodelaw09.model).prove -/
abbrev T35 := (R : Type) → Option (Nat × Nat) → Heap → (Heap → Option R) → Option R
structure Lin35 (a : T35) : Prop where
  l : ∀ {R S : Type} {k : S → Option R} {t0 : Option (Nat × Nat)} {H : Heap} {f : Heap → Option R} {g : Heap → Option S}, (∀ H, f H = (g H).bind k) → a R t0 H f = (a S t0 H g).bind k
def w35 (a35 : T35) : Fun := fun R args H K => match args with
  | [(V.p t0)] => a35 R t0 H (fun H => K (V.tup []) H)
  | _ => none
theorem w35_lin {a : T35} (l : Lin35 a) : FunLin (w35 a) := by
  intro R S args H f g k h
  unfold w35
  split
  · exact l.l fun _ => h _ _
  · rfl
/-- (*pointcodelaw09.model).hold -/
abbrev T36 := (R : Type) → Option (Nat × Nat) → Heap → (Heap → Option R) → Option R
structure Lin36 (a : T36) : Prop where
  l : ∀ {R S : Type} {k : S → Option R} {t0 : Option (Nat × Nat)} {H : Heap} {f : Heap → Option R} {g : Heap → Option S}, (∀ H, f H = (g H).bind k) → a R t0 H f = (a S t0 H g).bind k
def w36 (a36 : T36) : Fun := fun R args H K => match args with
  | [(V.p t0)] => a36 R t0 H (fun H => K (V.tup []) H)
  | _ => none
theorem w36_lin {a : T36} (l : Lin36 a) : FunLin (w36 a) := by
  intro R S args H f g k h
  unfold w36
  split
  · exact l.l fun _ => h _ _
  · rfl
/-- (*pointcodelaw09.model).act -/
abbrev T21 := (R : Type) → Option (Nat × Nat) → Int → Heap → (Int → Heap → Option R) → Option R
structure Lin21 (a : T21) : Prop where
  l : ∀ {R S : Type} {k : S → Option R} {t0 : Option (Nat × Nat)} {t1 : Int} {H : Heap} {f : Int → Heap → Option R} {g : Int → Heap → Option S}, (∀ r0 H, f r0 H = (g r0 H).bind k) → a R t0 t1 H f = (a S t0 t1 H g).bind k
def w21 (a21 : T21) : Fun := fun R args H K => match args with
  | [(V.p t0), (V.i .u8 t1)] => a21 R t0 t1 H (fun r0 H => K (V.i .i64 r0) H)
  | _ => none
theorem w21_lin {a : T21} (l : Lin21 a) : FunLin (w21 a) := by
  intro R S args H f g k h
  unfold w21
  split
  · exact l.l fun _ _ => h _ _
  · rfl
/-- pointcodelaw09.status -/
abbrev T22 := (R : Type) → Option (Nat × Nat) → Heap → (Int → Heap → Option R) → Option R
structure Lin22 (a : T22) : Prop where
  l : ∀ {R S : Type} {k : S → Option R} {t0 : Option (Nat × Nat)} {H : Heap} {f : Int → Heap → Option R} {g : Int → Heap → Option S}, (∀ r0 H, f r0 H = (g r0 H).bind k) → a R t0 H f = (a S t0 H g).bind k
def w22 (a22 : T22) : Fun := fun R args H K => match args with
  | [(V.p t0)] => a22 R t0 H (fun r0 H => K (V.i .u8 r0) H)
  | _ => none
theorem w22_lin {a : T22} (l : Lin22 a) : FunLin (w22 a) := by
  intro R S args H f g k h
  unfold w22
  split
  · exact l.l fun _ _ => h _ _
  · rfl
/-- (*pointcodelaw09.model).sends -/
abbrev T23 := (R : Type) → Option (Nat × Nat) → Heap → (Int → Heap → Option R) → Option R
structure Lin23 (a : T23) : Prop where
  l : ∀ {R S : Type} {k : S → Option R} {t0 : Option (Nat × Nat)} {H : Heap} {f : Int → Heap → Option R} {g : Int → Heap → Option S}, (∀ r0 H, f r0 H = (g r0 H).bind k) → a R t0 H f = (a S t0 H g).bind k
def w23 (a23 : T23) : Fun := fun R args H K => match args with
  | [(V.p t0)] => a23 R t0 H (fun r0 H => K (V.i .u8 r0) H)
  | _ => none
theorem w23_lin {a : T23} (l : Lin23 a) : FunLin (w23 a) := by
  intro R S args H f g k h
  unfold w23
  split
  · exact l.l fun _ _ => h _ _
  · rfl
/-- pointcodelaw09.AlignmentsScript -/
abbrev T5 := (R : Type) → Int → Int → Int → Int → Int → Int → Int → Sl → Heap → (Bool → Heap → Option R) → Option R
structure Lin5 (a : T5) : Prop where
  l : ∀ {R S : Type} {k : S → Option R} {t0_0 : Int} {t0_1 : Int} {t0_2 : Int} {t0_3 : Int} {t0_4 : Int} {t0_5 : Int} {t0_6 : Int} {t1 : Sl} {H : Heap} {f : Bool → Heap → Option R} {g : Bool → Heap → Option S}, (∀ r0 H, f r0 H = (g r0 H).bind k) → a R t0_0 t0_1 t0_2 t0_3 t0_4 t0_5 t0_6 t1 H f = (a S t0_0 t0_1 t0_2 t0_3 t0_4 t0_5 t0_6 t1 H g).bind k
def w5 (a5 : T5) : Fun := fun R args H K => match args with
  | [(V.agg [(V.i .u8 t0_0), (V.i .u8 t0_1), (V.i .u8 t0_2), (V.i .u8 t0_3), (V.i .u8 t0_4), (V.i .u8 t0_5), (V.i .u8 t0_6)]), (V.sl t1)] => a5 R t0_0 t0_1 t0_2 t0_3 t0_4 t0_5 t0_6 t1 H (fun r0 H => K (V.b r0) H)
  | _ => none
theorem w5_lin {a : T5} (l : Lin5 a) : FunLin (w5 a) := by
  intro R S args H f g k h
  unfold w5
  split
  · exact l.l fun _ _ => h _ _
  · rfl
/-- pointcodelaw09.AlignmentsAlone -/
abbrev T6 := (R : Type) → Int → Int → Int → Int → Int → Int → Int → Sl → Heap → (Bool → Heap → Option R) → Option R
structure Lin6 (a : T6) : Prop where
  l : ∀ {R S : Type} {k : S → Option R} {t0_0 : Int} {t0_1 : Int} {t0_2 : Int} {t0_3 : Int} {t0_4 : Int} {t0_5 : Int} {t0_6 : Int} {t1 : Sl} {H : Heap} {f : Bool → Heap → Option R} {g : Bool → Heap → Option S}, (∀ r0 H, f r0 H = (g r0 H).bind k) → a R t0_0 t0_1 t0_2 t0_3 t0_4 t0_5 t0_6 t1 H f = (a S t0_0 t0_1 t0_2 t0_3 t0_4 t0_5 t0_6 t1 H g).bind k
def w6 (a6 : T6) : Fun := fun R args H K => match args with
  | [(V.agg [(V.i .u8 t0_0), (V.i .u8 t0_1), (V.i .u8 t0_2), (V.i .u8 t0_3), (V.i .u8 t0_4), (V.i .u8 t0_5), (V.i .u8 t0_6)]), (V.sl t1)] => a6 R t0_0 t0_1 t0_2 t0_3 t0_4 t0_5 t0_6 t1 H (fun r0 H => K (V.b r0) H)
  | _ => none
theorem w6_lin {a : T6} (l : Lin6 a) : FunLin (w6 a) := by
  intro R S args H f g k h
  unfold w6
  split
  · exact l.l fun _ _ => h _ _
  · rfl
/-- pointcodelaw09.AlignmentsFinal -/
abbrev T7 := (R : Type) → Int → Int → Int → Int → Int → Int → Int → Sl → Sl → Heap → (Bool → Heap → Option R) → Option R
structure Lin7 (a : T7) : Prop where
  l : ∀ {R S : Type} {k : S → Option R} {t0_0 : Int} {t0_1 : Int} {t0_2 : Int} {t0_3 : Int} {t0_4 : Int} {t0_5 : Int} {t0_6 : Int} {t1 : Sl} {t2 : Sl} {H : Heap} {f : Bool → Heap → Option R} {g : Bool → Heap → Option S}, (∀ r0 H, f r0 H = (g r0 H).bind k) → a R t0_0 t0_1 t0_2 t0_3 t0_4 t0_5 t0_6 t1 t2 H f = (a S t0_0 t0_1 t0_2 t0_3 t0_4 t0_5 t0_6 t1 t2 H g).bind k
def w7 (a7 : T7) : Fun := fun R args H K => match args with
  | [(V.agg [(V.i .u8 t0_0), (V.i .u8 t0_1), (V.i .u8 t0_2), (V.i .u8 t0_3), (V.i .u8 t0_4), (V.i .u8 t0_5), (V.i .u8 t0_6)]), (V.sl t1), (V.sl t2)] => a7 R t0_0 t0_1 t0_2 t0_3 t0_4 t0_5 t0_6 t1 t2 H (fun r0 H => K (V.b r0) H)
  | _ => none
theorem w7_lin {a : T7} (l : Lin7 a) : FunLin (w7 a) := by
  intro R S args H f g k h
  unfold w7
  split
  · exact l.l fun _ _ => h _ _
  · rfl
/-- pointcodelaw09.AlignmentsErrors -/
abbrev T8 := (R : Type) → Int → Int → Int → Int → Int → Int → Int → Int → Heap → (Bool → Heap → Option R) → Option R
structure Lin8 (a : T8) : Prop where
  l : ∀ {R S : Type} {k : S → Option R} {t0_0 : Int} {t0_1 : Int} {t0_2 : Int} {t0_3 : Int} {t0_4 : Int} {t0_5 : Int} {t0_6 : Int} {t1 : Int} {H : Heap} {f : Bool → Heap → Option R} {g : Bool → Heap → Option S}, (∀ r0 H, f r0 H = (g r0 H).bind k) → a R t0_0 t0_1 t0_2 t0_3 t0_4 t0_5 t0_6 t1 H f = (a S t0_0 t0_1 t0_2 t0_3 t0_4 t0_5 t0_6 t1 H g).bind k
def w8 (a8 : T8) : Fun := fun R args H K => match args with
  | [(V.agg [(V.i .i64 t0_0), (V.i .i64 t0_1), (V.i .i64 t0_2), (V.i .i64 t0_3), (V.i .i64 t0_4), (V.i .i64 t0_5), (V.i .i64 t0_6)]), (V.i .u8 t1)] => a8 R t0_0 t0_1 t0_2 t0_3 t0_4 t0_5 t0_6 t1 H (fun r0 H => K (V.b r0) H)
  | _ => none
theorem w8_lin {a : T8} (l : Lin8 a) : FunLin (w8 a) := by
  intro R S args H f g k h
  unfold w8
  split
  · exact l.l fun _ _ => h _ _
  · rfl
end Go.Proofs.Ytkldpkemnmmbgaa


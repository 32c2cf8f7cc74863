/- Printed: types and contracts of the functions. -/
import Derived.Test.YtobebcfkddimkaaAmC
import Derived.Test.YtobebcfkddimkaaProg
namespace Go.Proofs.Ytobebcfkddimkaa
open Go AM Go.RowKit
set_option linter.unusedVariables false
theorem mixed : Try.prog.follows .mixedOrders = true := by kernel_rfl

/-- pointcodelaw25.lives -/
abbrev T9 := (R : Type) → Heap → (Bool → Heap → Option R) → Option R
structure Lin9 (a : T9) : Prop where
  l : ∀ {R S : Type} {k : S → Option R} {H : Heap} {f : Bool → Heap → Option R} {g : Bool → Heap → Option S}, (∀ r0 H, f r0 H = (g r0 H).bind k) → a R H f = (a S H g).bind k
def w9 (a9 : T9) : Fun := fun R args H K => match args with
  | [] => a9 R H (fun r0 H => K (V.b r0) H)
  | _ => none
theorem w9_lin {a : T9} (l : Lin9 a) : FunLin (w9 a) := by
  intro R S args H f g k h
  unfold w9
  split
  · exact l.l fun _ _ => h _ _
  · rfl
/-- bytes.Clone -/
abbrev T32 := (R : Type) → Sl → Heap → (Sl → Heap → Option R) → Option R
structure Lin32 (a : T32) : Prop where
  l : ∀ {R S : Type} {k : S → Option R} {t0 : Sl} {H : Heap} {f : Sl → Heap → Option R} {g : Sl → Heap → Option S}, (∀ r0 H, f r0 H = (g r0 H).bind k) → a R t0 H f = (a S t0 H g).bind k
def w32 (a32 : T32) : Fun := fun R args H K => match args with
  | [(V.sl t0)] => a32 R t0 H (fun r0 H => K (V.sl r0) H)
  | _ => none
theorem w32_lin {a : T32} (l : Lin32 a) : FunLin (w32 a) := by
  intro R S args H f g k h
  unfold w32
  split
  · exact l.l fun _ _ => h _ _
  · rfl
/-- slices.Clip[[]byte,byte] -/
abbrev T31 := (R : Type) → Sl → Heap → (Sl → Heap → Option R) → Option R
structure Lin31 (a : T31) : Prop where
  l : ∀ {R S : Type} {k : S → Option R} {t0 : Sl} {H : Heap} {f : Sl → Heap → Option R} {g : Sl → Heap → Option S}, (∀ r0 H, f r0 H = (g r0 H).bind k) → a R t0 H f = (a S t0 H g).bind k
def w31 (a31 : T31) : Fun := fun R args H K => match args with
  | [(V.sl t0)] => a31 R t0 H (fun r0 H => K (V.sl r0) H)
  | _ => none
theorem w31_lin {a : T31} (l : Lin31 a) : FunLin (w31 a) := by
  intro R S args H f g k h
  unfold w31
  split
  · exact l.l fun _ _ => h _ _
  · rfl
/-- segments.Split -/
abbrev T18 := (R : Type) → Int → Sl → Int → Heap → (Sl → Int → Heap → Option R) → Option R
structure Lin18 (a : T18) : Prop where
  l : ∀ {R S : Type} {k : S → Option R} {t0 : Int} {t1 : Sl} {t2 : Int} {H : Heap} {f : Sl → Int → Heap → Option R} {g : Sl → Int → Heap → Option S}, (∀ r0 r1 H, f r0 r1 H = (g r0 r1 H).bind k) → a R t0 t1 t2 H f = (a S t0 t1 t2 H g).bind k
def w18 (a18 : T18) : Fun := fun R args H K => match args with
  | [(V.i .u32 t0), (V.sl t1), (V.i .i64 t2)] => a18 R t0 t1 t2 H (fun r0 r1 H => K (V.tup [(V.sl r0), (V.i .i64 r1)]) H)
  | _ => none
theorem w18_lin {a : T18} (l : Lin18 a) : FunLin (w18 a) := by
  intro R S args H f g k h
  unfold w18
  split
  · exact l.l fun _ _ _ => h _ _
  · rfl
/-- segments.check -/
abbrev T30 := (R : Type) → Int → Bool → Int → Sl → Heap → (Int → Heap → Option R) → Option R
structure Lin30 (a : T30) : Prop where
  l : ∀ {R S : Type} {k : S → Option R} {t0_0 : Int} {t0_1 : Bool} {t0_2 : Int} {t0_3 : Sl} {H : Heap} {f : Int → Heap → Option R} {g : Int → Heap → Option S}, (∀ r0 H, f r0 H = (g r0 H).bind k) → a R t0_0 t0_1 t0_2 t0_3 H f = (a S t0_0 t0_1 t0_2 t0_3 H g).bind k
def w30 (a30 : T30) : Fun := fun R args H K => match args with
  | [(V.agg [(V.i .u32 t0_0), (V.b t0_1), (V.i .u8 t0_2), (V.sl t0_3)])] => a30 R t0_0 t0_1 t0_2 t0_3 H (fun r0 H => K (V.i .i64 r0) H)
  | _ => none
theorem w30_lin {a : T30} (l : Lin30 a) : FunLin (w30 a) := by
  intro R S args H f g k h
  unfold w30
  split
  · exact l.l fun _ _ => h _ _
  · rfl
/-- segments.Encode -/
abbrev T19 := (R : Type) → Int → Bool → Int → Sl → Heap → (Sl → Int → Heap → Option R) → Option R
structure Lin19 (a : T19) : Prop where
  l : ∀ {R S : Type} {k : S → Option R} {t0_0 : Int} {t0_1 : Bool} {t0_2 : Int} {t0_3 : Sl} {H : Heap} {f : Sl → Int → Heap → Option R} {g : Sl → Int → Heap → Option S}, (∀ r0 r1 H, f r0 r1 H = (g r0 r1 H).bind k) → a R t0_0 t0_1 t0_2 t0_3 H f = (a S t0_0 t0_1 t0_2 t0_3 H g).bind k
def w19 (a19 : T19) : Fun := fun R args H K => match args with
  | [(V.agg [(V.i .u32 t0_0), (V.b t0_1), (V.i .u8 t0_2), (V.sl t0_3)])] => a19 R t0_0 t0_1 t0_2 t0_3 H (fun r0 r1 H => K (V.tup [(V.sl r0), (V.i .i64 r1)]) H)
  | _ => none
theorem w19_lin {a : T19} (l : Lin19 a) : FunLin (w19 a) := by
  intro R S args H f g k h
  unfold w19
  split
  · exact l.l fun _ _ _ => h _ _
  · rfl
/-- segments.Decode -/
abbrev T20 := (R : Type) → Sl → Heap → (Int → Bool → Int → Sl → Int → Heap → Option R) → Option R
structure Lin20 (a : T20) : Prop where
  l : ∀ {R S : Type} {k : S → Option R} {t0 : Sl} {H : Heap} {f : Int → Bool → Int → Sl → Int → Heap → Option R} {g : Int → Bool → Int → Sl → Int → Heap → Option S}, (∀ r0_0 r0_1 r0_2 r0_3 r1 H, f r0_0 r0_1 r0_2 r0_3 r1 H = (g r0_0 r0_1 r0_2 r0_3 r1 H).bind k) → a R t0 H f = (a S t0 H g).bind k
def w20 (a20 : T20) : Fun := fun R args H K => match args with
  | [(V.sl t0)] => a20 R t0 H (fun r0_0 r0_1 r0_2 r0_3 r1 H => K (V.tup [(V.agg [(V.i .u32 r0_0), (V.b r0_1), (V.i .u8 r0_2), (V.sl r0_3)]), (V.i .i64 r1)]) H)
  | _ => none
theorem w20_lin {a : T20} (l : Lin20 a) : FunLin (w20 a) := by
  intro R S args H f g k h
  unfold w20
  split
  · exact l.l fun _ _ _ _ _ _ => h _ _
  · rfl
/-- pointcodelaw25.same -/
abbrev T21 := (R : Type) → Int → Bool → Int → Sl → Int → Bool → Int → Sl → Heap → (Bool → Heap → Option R) → Option R
structure Lin21 (a : T21) : Prop where
  l : ∀ {R S : Type} {k : S → Option R} {t0_0 : Int} {t0_1 : Bool} {t0_2 : Int} {t0_3 : Sl} {t1_0 : Int} {t1_1 : Bool} {t1_2 : Int} {t1_3 : Sl} {H : Heap} {f : Bool → Heap → Option R} {g : Bool → Heap → Option S}, (∀ r0 H, f r0 H = (g r0 H).bind k) → a R t0_0 t0_1 t0_2 t0_3 t1_0 t1_1 t1_2 t1_3 H f = (a S t0_0 t0_1 t0_2 t0_3 t1_0 t1_1 t1_2 t1_3 H g).bind k
def w21 (a21 : T21) : Fun := fun R args H K => match args with
  | [(V.agg [(V.i .u32 t0_0), (V.b t0_1), (V.i .u8 t0_2), (V.sl t0_3)]), (V.agg [(V.i .u32 t1_0), (V.b t1_1), (V.i .u8 t1_2), (V.sl t1_3)])] => a21 R t0_0 t0_1 t0_2 t0_3 t1_0 t1_1 t1_2 t1_3 H (fun r0 H => K (V.b r0) H)
  | _ => none
theorem w21_lin {a : T21} (l : Lin21 a) : FunLin (w21 a) := by
  intro R S args H f g k h
  unfold w21
  split
  · exact l.l fun _ _ => h _ _
  · rfl
/-- pointcodelaw25.SegmentsSplits -/
abbrev T7 := (R : Type) → Int → Sl → Int → Heap → (Bool → Heap → Option R) → Option R
structure Lin7 (a : T7) : Prop where
  l : ∀ {R S : Type} {k : S → Option R} {t0 : Int} {t1 : Sl} {t2 : Int} {H : Heap} {f : Bool → Heap → Option R} {g : Bool → Heap → Option S}, (∀ r0 H, f r0 H = (g r0 H).bind k) → a R t0 t1 t2 H f = (a S t0 t1 t2 H g).bind k
def w7 (a7 : T7) : Fun := fun R args H K => match args with
  | [(V.i .u32 t0), (V.sl t1), (V.i .i64 t2)] => a7 R t0 t1 t2 H (fun r0 H => K (V.b r0) H)
  | _ => none
theorem w7_lin {a : T7} (l : Lin7 a) : FunLin (w7 a) := by
  intro R S args H f g k h
  unfold w7
  split
  · exact l.l fun _ _ => h _ _
  · rfl
/-- pointcodelaw25.SegmentsBytes -/
abbrev T8 := (R : Type) → Int → Bool → Int → Sl → Sl → Heap → (Bool → Heap → Option R) → Option R
structure Lin8 (a : T8) : Prop where
  l : ∀ {R S : Type} {k : S → Option R} {t0_0 : Int} {t0_1 : Bool} {t0_2 : Int} {t0_3 : Sl} {t1 : Sl} {H : Heap} {f : Bool → Heap → Option R} {g : Bool → Heap → Option S}, (∀ r0 H, f r0 H = (g r0 H).bind k) → a R t0_0 t0_1 t0_2 t0_3 t1 H f = (a S t0_0 t0_1 t0_2 t0_3 t1 H g).bind k
def w8 (a8 : T8) : Fun := fun R args H K => match args with
  | [(V.agg [(V.i .u32 t0_0), (V.b t0_1), (V.i .u8 t0_2), (V.sl t0_3)]), (V.sl t1)] => a8 R t0_0 t0_1 t0_2 t0_3 t1 H (fun r0 H => K (V.b r0) H)
  | _ => none
theorem w8_lin {a : T8} (l : Lin8 a) : FunLin (w8 a) := by
  intro R S args H f g k h
  unfold w8
  split
  · exact l.l fun _ _ => h _ _
  · rfl
end Go.Proofs.Ytobebcfkddimkaa


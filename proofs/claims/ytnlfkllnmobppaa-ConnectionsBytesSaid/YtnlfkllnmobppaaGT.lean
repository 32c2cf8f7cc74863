/- Printed: types and contracts of the functions. -/
import Derived.Test.YtnlfkllnmobppaaAmC
import Derived.Test.YtnlfkllnmobppaaProg
namespace Go.Proofs.Ytnlfkllnmobppaa
open Go AM Go.RowKit
set_option linter.unusedVariables false
theorem mixed : Try.prog.follows .mixedOrders = true := by kernel_rfl
def str0 : ByteArray := ⟨#[]⟩
/-- pointcodelaw27.lives -/
abbrev T9 := (R : Type) → Heap → (Bool → Heap → Option R) → Option R
structure Lin9 (a : T9) : Prop where
  l : ∀ {R S : Type} {k : S → Option R} {H : Heap} {f : Bool → Heap → Option R} {g : Bool → Heap → Option S}, (∀ r0 H, f r0 H = (g r0 H).bind k) → a R H f = (a S H g).bind k
def w9 (a9 : T9) : Fun := fun R args H K => match args with
  | [] => a9 R H (fun r0 H => K (V.b r0) H)
  | _ => none
theorem w9_lin {a : T9} (l : Lin9 a) : FunLin (w9 a) := by
  intro R S args H f g k h
  unfold w9
  split
  · exact l.l fun _ _ => h _ _
  · rfl
/-- pointcodelaw27.same -/
abbrev T15 := (R : Type) → Int → Int → Int → Int → Int → Int → Int → Sl → Int → Int → Int → Int → Int → Int → Int → Sl → Heap → (Bool → Heap → Option R) → Option R
structure Lin15 (a : T15) : Prop where
  l : ∀ {R S : Type} {k : S → Option R} {t0_0 : Int} {t0_1 : Int} {t0_2 : Int} {t0_3 : Int} {t0_4 : Int} {t0_5 : Int} {t0_6 : Int} {t0_7 : Sl} {t1_0 : Int} {t1_1 : Int} {t1_2 : Int} {t1_3 : Int} {t1_4 : Int} {t1_5 : Int} {t1_6 : Int} {t1_7 : Sl} {H : Heap} {f : Bool → Heap → Option R} {g : Bool → Heap → Option S}, (∀ r0 H, f r0 H = (g r0 H).bind k) → a R t0_0 t0_1 t0_2 t0_3 t0_4 t0_5 t0_6 t0_7 t1_0 t1_1 t1_2 t1_3 t1_4 t1_5 t1_6 t1_7 H f = (a S t0_0 t0_1 t0_2 t0_3 t0_4 t0_5 t0_6 t0_7 t1_0 t1_1 t1_2 t1_3 t1_4 t1_5 t1_6 t1_7 H g).bind k
def w15 (a15 : T15) : Fun := fun R args H K => match args with
  | [(V.agg [(V.i .u8 t0_0), (V.i .u32 t0_1), (V.i .u32 t0_2), (V.i .u8 t0_3), (V.i .u8 t0_4), (V.i .u8 t0_5), (V.i .u8 t0_6), (V.sl t0_7)]), (V.agg [(V.i .u8 t1_0), (V.i .u32 t1_1), (V.i .u32 t1_2), (V.i .u8 t1_3), (V.i .u8 t1_4), (V.i .u8 t1_5), (V.i .u8 t1_6), (V.sl t1_7)])] => a15 R t0_0 t0_1 t0_2 t0_3 t0_4 t0_5 t0_6 t0_7 t1_0 t1_1 t1_2 t1_3 t1_4 t1_5 t1_6 t1_7 H (fun r0 H => K (V.b r0) H)
  | _ => none
theorem w15_lin {a : T15} (l : Lin15 a) : FunLin (w15 a) := by
  intro R S args H f g k h
  unfold w15
  split
  · exact l.l fun _ _ => h _ _
  · rfl
/-- pointcodelaw27.check -/
abbrev T10 := (R : Type) → Int → Int → Int → Int → Int → Int → Int → Sl → Heap → (Int → Heap → Option R) → Option R
structure Lin10 (a : T10) : Prop where
  l : ∀ {R S : Type} {k : S → Option R} {t0_0 : Int} {t0_1 : Int} {t0_2 : Int} {t0_3 : Int} {t0_4 : Int} {t0_5 : Int} {t0_6 : Int} {t0_7 : Sl} {H : Heap} {f : Int → Heap → Option R} {g : Int → Heap → Option S}, (∀ r0 H, f r0 H = (g r0 H).bind k) → a R t0_0 t0_1 t0_2 t0_3 t0_4 t0_5 t0_6 t0_7 H f = (a S t0_0 t0_1 t0_2 t0_3 t0_4 t0_5 t0_6 t0_7 H g).bind k
def w10 (a10 : T10) : Fun := fun R args H K => match args with
  | [(V.agg [(V.i .u8 t0_0), (V.i .u32 t0_1), (V.i .u32 t0_2), (V.i .u8 t0_3), (V.i .u8 t0_4), (V.i .u8 t0_5), (V.i .u8 t0_6), (V.sl t0_7)])] => a10 R t0_0 t0_1 t0_2 t0_3 t0_4 t0_5 t0_6 t0_7 H (fun r0 H => K (V.i .i64 r0) H)
  | _ => none
theorem w10_lin {a : T10} (l : Lin10 a) : FunLin (w10 a) := by
  intro R S args H f g k h
  unfold w10
  split
  · exact l.l fun _ _ => h _ _
  · rfl
/-- connections.Check -/
abbrev T12 := (R : Type) → Int → Int → Int → Int → Int → Int → Int → Sl → Heap → (Int → Heap → Option R) → Option R
structure Lin12 (a : T12) : Prop where
  l : ∀ {R S : Type} {k : S → Option R} {t0_0 : Int} {t0_1 : Int} {t0_2 : Int} {t0_3 : Int} {t0_4 : Int} {t0_5 : Int} {t0_6 : Int} {t0_7 : Sl} {H : Heap} {f : Int → Heap → Option R} {g : Int → Heap → Option S}, (∀ r0 H, f r0 H = (g r0 H).bind k) → a R t0_0 t0_1 t0_2 t0_3 t0_4 t0_5 t0_6 t0_7 H f = (a S t0_0 t0_1 t0_2 t0_3 t0_4 t0_5 t0_6 t0_7 H g).bind k
def w12 (a12 : T12) : Fun := fun R args H K => match args with
  | [(V.agg [(V.i .u8 t0_0), (V.i .u32 t0_1), (V.i .u32 t0_2), (V.i .u8 t0_3), (V.i .u8 t0_4), (V.i .u8 t0_5), (V.i .u8 t0_6), (V.sl t0_7)])] => a12 R t0_0 t0_1 t0_2 t0_3 t0_4 t0_5 t0_6 t0_7 H (fun r0 H => K (V.i .i64 r0) H)
  | _ => none
theorem w12_lin {a : T12} (l : Lin12 a) : FunLin (w12 a) := by
  intro R S args H f g k h
  unfold w12
  split
  · exact l.l fun _ _ => h _ _
  · rfl
/-- connections.Encode -/
abbrev T11 := (R : Type) → Int → Int → Int → Int → Int → Int → Int → Sl → Heap → (Sl → Int → Heap → Option R) → Option R
structure Lin11 (a : T11) : Prop where
  l : ∀ {R S : Type} {k : S → Option R} {t0_0 : Int} {t0_1 : Int} {t0_2 : Int} {t0_3 : Int} {t0_4 : Int} {t0_5 : Int} {t0_6 : Int} {t0_7 : Sl} {H : Heap} {f : Sl → Int → Heap → Option R} {g : Sl → Int → Heap → Option S}, (∀ r0 r1 H, f r0 r1 H = (g r0 r1 H).bind k) → a R t0_0 t0_1 t0_2 t0_3 t0_4 t0_5 t0_6 t0_7 H f = (a S t0_0 t0_1 t0_2 t0_3 t0_4 t0_5 t0_6 t0_7 H g).bind k
def w11 (a11 : T11) : Fun := fun R args H K => match args with
  | [(V.agg [(V.i .u8 t0_0), (V.i .u32 t0_1), (V.i .u32 t0_2), (V.i .u8 t0_3), (V.i .u8 t0_4), (V.i .u8 t0_5), (V.i .u8 t0_6), (V.sl t0_7)])] => a11 R t0_0 t0_1 t0_2 t0_3 t0_4 t0_5 t0_6 t0_7 H (fun r0 r1 H => K (V.tup [(V.sl r0), (V.i .i64 r1)]) H)
  | _ => none
theorem w11_lin {a : T11} (l : Lin11 a) : FunLin (w11 a) := by
  intro R S args H f g k h
  unfold w11
  split
  · exact l.l fun _ _ _ => h _ _
  · rfl
/-- slices.Clone[[]byte,byte] -/
abbrev T55 := (R : Type) → Sl → Heap → (Sl → Heap → Option R) → Option R
structure Lin55 (a : T55) : Prop where
  l : ∀ {R S : Type} {k : S → Option R} {t0 : Sl} {H : Heap} {f : Sl → Heap → Option R} {g : Sl → Heap → Option S}, (∀ r0 H, f r0 H = (g r0 H).bind k) → a R t0 H f = (a S t0 H g).bind k
def w55 (a55 : T55) : Fun := fun R args H K => match args with
  | [(V.sl t0)] => a55 R t0 H (fun r0 H => K (V.sl r0) H)
  | _ => none
theorem w55_lin {a : T55} (l : Lin55 a) : FunLin (w55 a) := by
  intro R S args H f g k h
  unfold w55
  split
  · exact l.l fun _ _ => h _ _
  · rfl
/-- slices.Clip[[]byte,byte] -/
abbrev T54 := (R : Type) → Sl → Heap → (Sl → Heap → Option R) → Option R
structure Lin54 (a : T54) : Prop where
  l : ∀ {R S : Type} {k : S → Option R} {t0 : Sl} {H : Heap} {f : Sl → Heap → Option R} {g : Sl → Heap → Option S}, (∀ r0 H, f r0 H = (g r0 H).bind k) → a R t0 H f = (a S t0 H g).bind k
def w54 (a54 : T54) : Fun := fun R args H K => match args with
  | [(V.sl t0)] => a54 R t0 H (fun r0 H => K (V.sl r0) H)
  | _ => none
theorem w54_lin {a : T54} (l : Lin54 a) : FunLin (w54 a) := by
  intro R S args H f g k h
  unfold w54
  split
  · exact l.l fun _ _ => h _ _
  · rfl
/-- connections.own -/
abbrev T36 := (R : Type) → Sl → Heap → (Sl → Heap → Option R) → Option R
structure Lin36 (a : T36) : Prop where
  l : ∀ {R S : Type} {k : S → Option R} {t0 : Sl} {H : Heap} {f : Sl → Heap → Option R} {g : Sl → Heap → Option S}, (∀ r0 H, f r0 H = (g r0 H).bind k) → a R t0 H f = (a S t0 H g).bind k
def w36 (a36 : T36) : Fun := fun R args H K => match args with
  | [(V.sl t0)] => a36 R t0 H (fun r0 H => K (V.sl r0) H)
  | _ => none
theorem w36_lin {a : T36} (l : Lin36 a) : FunLin (w36 a) := by
  intro R S args H f g k h
  unfold w36
  split
  · exact l.l fun _ _ => h _ _
  · rfl
/-- connections.Decode -/
abbrev T13 := (R : Type) → Sl → Heap → (Int → Int → Int → Int → Int → Int → Int → Sl → Int → Heap → Option R) → Option R
structure Lin13 (a : T13) : Prop where
  l : ∀ {R S : Type} {k : S → Option R} {t0 : Sl} {H : Heap} {f : Int → Int → Int → Int → Int → Int → Int → Sl → Int → Heap → Option R} {g : Int → Int → Int → Int → Int → Int → Int → Sl → Int → Heap → Option S}, (∀ r0_0 r0_1 r0_2 r0_3 r0_4 r0_5 r0_6 r0_7 r1 H, f r0_0 r0_1 r0_2 r0_3 r0_4 r0_5 r0_6 r0_7 r1 H = (g r0_0 r0_1 r0_2 r0_3 r0_4 r0_5 r0_6 r0_7 r1 H).bind k) → a R t0 H f = (a S t0 H g).bind k
def w13 (a13 : T13) : Fun := fun R args H K => match args with
  | [(V.sl t0)] => a13 R t0 H (fun r0_0 r0_1 r0_2 r0_3 r0_4 r0_5 r0_6 r0_7 r1 H => K (V.tup [(V.agg [(V.i .u8 r0_0), (V.i .u32 r0_1), (V.i .u32 r0_2), (V.i .u8 r0_3), (V.i .u8 r0_4), (V.i .u8 r0_5), (V.i .u8 r0_6), (V.sl r0_7)]), (V.i .i64 r1)]) H)
  | _ => none
theorem w13_lin {a : T13} (l : Lin13 a) : FunLin (w13 a) := by
  intro R S args H f g k h
  unfold w13
  split
  · exact l.l fun _ _ _ _ _ _ _ _ _ _ => h _ _
  · rfl
/-- pointcodelaw27.bytes -/
abbrev T14 := (R : Type) → Int → Int → Int → Int → Int → Int → Int → Sl → Heap → (ByteArray → Heap → Option R) → Option R
structure Lin14 (a : T14) : Prop where
  l : ∀ {R S : Type} {k : S → Option R} {t0_0 : Int} {t0_1 : Int} {t0_2 : Int} {t0_3 : Int} {t0_4 : Int} {t0_5 : Int} {t0_6 : Int} {t0_7 : Sl} {H : Heap} {f : ByteArray → Heap → Option R} {g : ByteArray → Heap → Option S}, (∀ r0 H, f r0 H = (g r0 H).bind k) → a R t0_0 t0_1 t0_2 t0_3 t0_4 t0_5 t0_6 t0_7 H f = (a S t0_0 t0_1 t0_2 t0_3 t0_4 t0_5 t0_6 t0_7 H g).bind k
def w14 (a14 : T14) : Fun := fun R args H K => match args with
  | [(V.agg [(V.i .u8 t0_0), (V.i .u32 t0_1), (V.i .u32 t0_2), (V.i .u8 t0_3), (V.i .u8 t0_4), (V.i .u8 t0_5), (V.i .u8 t0_6), (V.sl t0_7)])] => a14 R t0_0 t0_1 t0_2 t0_3 t0_4 t0_5 t0_6 t0_7 H (fun r0 H => K (V.s r0) H)
  | _ => none
theorem w14_lin {a : T14} (l : Lin14 a) : FunLin (w14 a) := by
  intro R S args H f g k h
  unfold w14
  split
  · exact l.l fun _ _ => h _ _
  · rfl
/-- pointcodelaw27.is -/
abbrev T16 := (R : Type) → Sl → Heap → (Bool → Heap → Option R) → Option R
structure Lin16 (a : T16) : Prop where
  l : ∀ {R S : Type} {k : S → Option R} {t0 : Sl} {H : Heap} {f : Bool → Heap → Option R} {g : Bool → Heap → Option S}, (∀ r0 H, f r0 H = (g r0 H).bind k) → a R t0 H f = (a S t0 H g).bind k
def w16 (a16 : T16) : Fun := fun R args H K => match args with
  | [(V.sl t0)] => a16 R t0 H (fun r0 H => K (V.b r0) H)
  | _ => none
theorem w16_lin {a : T16} (l : Lin16 a) : FunLin (w16 a) := by
  intro R S args H f g k h
  unfold w16
  split
  · exact l.l fun _ _ => h _ _
  · rfl
/-- pointcodelaw27.ConnectionsBytes -/
abbrev T3 := (R : Type) → Int → Int → Int → Int → Int → Int → Int → Sl → Sl → Heap → (Bool → Heap → Option R) → Option R
structure Lin3 (a : T3) : Prop where
  l : ∀ {R S : Type} {k : S → Option R} {t0_0 : Int} {t0_1 : Int} {t0_2 : Int} {t0_3 : Int} {t0_4 : Int} {t0_5 : Int} {t0_6 : Int} {t0_7 : Sl} {t1 : Sl} {H : Heap} {f : Bool → Heap → Option R} {g : Bool → Heap → Option S}, (∀ r0 H, f r0 H = (g r0 H).bind k) → a R t0_0 t0_1 t0_2 t0_3 t0_4 t0_5 t0_6 t0_7 t1 H f = (a S t0_0 t0_1 t0_2 t0_3 t0_4 t0_5 t0_6 t0_7 t1 H g).bind k
def w3 (a3 : T3) : Fun := fun R args H K => match args with
  | [(V.agg [(V.i .u8 t0_0), (V.i .u32 t0_1), (V.i .u32 t0_2), (V.i .u8 t0_3), (V.i .u8 t0_4), (V.i .u8 t0_5), (V.i .u8 t0_6), (V.sl t0_7)]), (V.sl t1)] => a3 R t0_0 t0_1 t0_2 t0_3 t0_4 t0_5 t0_6 t0_7 t1 H (fun r0 H => K (V.b r0) H)
  | _ => none
theorem w3_lin {a : T3} (l : Lin3 a) : FunLin (w3 a) := by
  intro R S args H f g k h
  unfold w3
  split
  · exact l.l fun _ _ => h _ _
  · rfl
end Go.Proofs.Ytnlfkllnmobppaa


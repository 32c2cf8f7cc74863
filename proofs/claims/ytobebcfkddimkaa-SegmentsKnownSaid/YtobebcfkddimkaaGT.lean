/- Printed: types and contracts of the functions. -/
import Derived.Test.YtobebcfkddimkaaAmD
import Derived.Test.YtobebcfkddimkaaProg
namespace Go.Proofs.Ytobebcfkddimkaa
open Go AM Go.RowKit
set_option linter.unusedVariables false
theorem mixed:Try.prog.follows .mixedOrders = true:=by kernel_rfl
def str0:ByteArray:=⟨#[]⟩
def str1:ByteArray:=⟨#[5]⟩
/-- (*segments.Joiner).Tick -/
abbrev T11:=(R:Type)→Option (Nat × Nat)→Heap→(Sl→Heap→Option R)→Option R
structure Lin11 (a:T11):Prop where
  l:∀ {R S:Type} {k:S→Option R} {t0:Option (Nat × Nat)} {H:Heap} {f:Sl→Heap→Option R} {g:Sl→Heap→Option S},(∀ r0 H,f r0 H = (g r0 H).bind k)→a R t0 H f = (a S t0 H g).bind k
def w11 (a11:T11):Fun:=fun R args H K=>match args with
  | [(V.p t0)]=>a11 R t0 H (fun r0 H=>K (V.sl r0) H)
  | _=>none
theorem w11_lin {a:T11} (l:Lin11 a):FunLin (w11 a):=by
  intro R S args H f g k h
  unfold w11
  split
  · exact l.l fun _ _=>h _ _
  · rfl
/-- (*segments.Joiner).made -/
abbrev T22:=(R:Type)→Option (Nat × Nat)→Heap→(Bool→Heap→Option R)→Option R
structure Lin22 (a:T22):Prop where
  l:∀ {R S:Type} {k:S→Option R} {t0:Option (Nat × Nat)} {H:Heap} {f:Bool→Heap→Option R} {g:Bool→Heap→Option S},(∀ r0 H,f r0 H = (g r0 H).bind k)→a R t0 H f = (a S t0 H g).bind k
def w22 (a22:T22):Fun:=fun R args H K=>match args with
  | [(V.p t0)]=>a22 R t0 H (fun r0 H=>K (V.b r0) H)
  | _=>none
theorem w22_lin {a:T22} (l:Lin22 a):FunLin (w22 a):=by
  intro R S args H f g k h
  unfold w22
  split
  · exact l.l fun _ _=>h _ _
  · rfl
/-- (*segments.Joiner).drop -/
abbrev T23:=(R:Type)→Option (Nat × Nat)→Int→Int→Heap→(Heap→Option R)→Option R
structure Lin23 (a:T23):Prop where
  l:∀ {R S:Type} {k:S→Option R} {t0:Option (Nat × Nat)} {t1_0:Int} {t1_1:Int} {H:Heap} {f:Heap→Option R} {g:Heap→Option S},(∀ H,f H = (g H).bind k)→a R t0 t1_0 t1_1 H f = (a S t0 t1_0 t1_1 H g).bind k
def w23 (a23:T23):Fun:=fun R args H K=>match args with
  | [(V.p t0),(V.agg [(V.i .u16 t1_0),(V.i .u32 t1_1)])]=>a23 R t0 t1_0 t1_1 H (fun H=>K (V.tup []) H)
  | _=>none
theorem w23_lin {a:T23} (l:Lin23 a):FunLin (w23 a):=by
  intro R S args H f g k h
  unfold w23
  split
  · exact l.l fun _=>h _ _
  · rfl
/-- slices.Clip[[]segments.Lost,segments.Lost] -/
abbrev T24:=(R:Type)→Sl→Heap→(Sl→Heap→Option R)→Option R
structure Lin24 (a:T24):Prop where
  l:∀ {R S:Type} {k:S→Option R} {t0:Sl} {H:Heap} {f:Sl→Heap→Option R} {g:Sl→Heap→Option S},(∀ r0 H,f r0 H = (g r0 H).bind k)→a R t0 H f = (a S t0 H g).bind k
def w24 (a24:T24):Fun:=fun R args H K=>match args with
  | [(V.sl t0)]=>a24 R t0 H (fun r0 H=>K (V.sl r0) H)
  | _=>none
theorem w24_lin {a:T24} (l:Lin24 a):FunLin (w24 a):=by
  intro R S args H f g k h
  unfold w24
  split
  · exact l.l fun _ _=>h _ _
  · rfl
/-- cmp.isNaN[api.Point] -/
abbrev T35:=(R:Type)→Int→Heap→(Bool→Heap→Option R)→Option R
structure Lin35 (a:T35):Prop where
  l:∀ {R S:Type} {k:S→Option R} {t0:Int} {H:Heap} {f:Bool→Heap→Option R} {g:Bool→Heap→Option S},(∀ r0 H,f r0 H = (g r0 H).bind k)→a R t0 H f = (a S t0 H g).bind k
def w35 (a35:T35):Fun:=fun R args H K=>match args with
  | [(V.i .u16 t0)]=>a35 R t0 H (fun r0 H=>K (V.b r0) H)
  | _=>none
theorem w35_lin {a:T35} (l:Lin35 a):FunLin (w35 a):=by
  intro R S args H f g k h
  unfold w35
  split
  · exact l.l fun _ _=>h _ _
  · rfl
/-- cmp.Compare[api.Point] -/
abbrev T28:=(R:Type)→Int→Int→Heap→(Int→Heap→Option R)→Option R
structure Lin28 (a:T28):Prop where
  l:∀ {R S:Type} {k:S→Option R} {t0:Int} {t1:Int} {H:Heap} {f:Int→Heap→Option R} {g:Int→Heap→Option S},(∀ r0 H,f r0 H = (g r0 H).bind k)→a R t0 t1 H f = (a S t0 t1 H g).bind k
def w28 (a28:T28):Fun:=fun R args H K=>match args with
  | [(V.i .u16 t0),(V.i .u16 t1)]=>a28 R t0 t1 H (fun r0 H=>K (V.i .i64 r0) H)
  | _=>none
theorem w28_lin {a:T28} (l:Lin28 a):FunLin (w28 a):=by
  intro R S args H f g k h
  unfold w28
  split
  · exact l.l fun _ _=>h _ _
  · rfl
/-- cmp.isNaN[uint32] -/
abbrev T36:=(R:Type)→Int→Heap→(Bool→Heap→Option R)→Option R
structure Lin36 (a:T36):Prop where
  l:∀ {R S:Type} {k:S→Option R} {t0:Int} {H:Heap} {f:Bool→Heap→Option R} {g:Bool→Heap→Option S},(∀ r0 H,f r0 H = (g r0 H).bind k)→a R t0 H f = (a S t0 H g).bind k
def w36 (a36:T36):Fun:=fun R args H K=>match args with
  | [(V.i .u32 t0)]=>a36 R t0 H (fun r0 H=>K (V.b r0) H)
  | _=>none
theorem w36_lin {a:T36} (l:Lin36 a):FunLin (w36 a):=by
  intro R S args H f g k h
  unfold w36
  split
  · exact l.l fun _ _=>h _ _
  · rfl
/-- cmp.Compare[uint32] -/
abbrev T29:=(R:Type)→Int→Int→Heap→(Int→Heap→Option R)→Option R
structure Lin29 (a:T29):Prop where
  l:∀ {R S:Type} {k:S→Option R} {t0:Int} {t1:Int} {H:Heap} {f:Int→Heap→Option R} {g:Int→Heap→Option S},(∀ r0 H,f r0 H = (g r0 H).bind k)→a R t0 t1 H f = (a S t0 t1 H g).bind k
def w29 (a29:T29):Fun:=fun R args H K=>match args with
  | [(V.i .u32 t0),(V.i .u32 t1)]=>a29 R t0 t1 H (fun r0 H=>K (V.i .i64 r0) H)
  | _=>none
theorem w29_lin {a:T29} (l:Lin29 a):FunLin (w29 a):=by
  intro R S args H f g k h
  unfold w29
  split
  · exact l.l fun _ _=>h _ _
  · rfl
/-- cmp.Or[int] -/
abbrev T27:=(R:Type)→Sl→Heap→(Int→Heap→Option R)→Option R
structure Lin27 (a:T27):Prop where
  l:∀ {R S:Type} {k:S→Option R} {t0:Sl} {H:Heap} {f:Int→Heap→Option R} {g:Int→Heap→Option S},(∀ r0 H,f r0 H = (g r0 H).bind k)→a R t0 H f = (a S t0 H g).bind k
def w27 (a27:T27):Fun:=fun R args H K=>match args with
  | [(V.sl t0)]=>a27 R t0 H (fun r0 H=>K (V.i .i64 r0) H)
  | _=>none
theorem w27_lin {a:T27} (l:Lin27 a):FunLin (w27 a):=by
  intro R S args H f g k h
  unfold w27
  split
  · exact l.l fun _ _=>h _ _
  · rfl
/-- (*segments.Joiner).Tick$1 -/
abbrev T26:=(R:Type)→Int→Int→Int→Int→Heap→(Int→Heap→Option R)→Option R
structure Lin26 (a:T26):Prop where
  l:∀ {R S:Type} {k:S→Option R} {t0_0:Int} {t0_1:Int} {t1_0:Int} {t1_1:Int} {H:Heap} {f:Int→Heap→Option R} {g:Int→Heap→Option S},(∀ r0 H,f r0 H = (g r0 H).bind k)→a R t0_0 t0_1 t1_0 t1_1 H f = (a S t0_0 t0_1 t1_0 t1_1 H g).bind k
def w26 (a26:T26):Fun:=fun R args H K=>match args with
  | [(V.agg [(V.i .u16 t0_0),(V.i .u32 t0_1)]),(V.agg [(V.i .u16 t1_0),(V.i .u32 t1_1)])]=>a26 R t0_0 t0_1 t1_0 t1_1 H (fun r0 H=>K (V.i .i64 r0) H)
  | _=>none
/-- segments.check -/
abbrev T30:=(R:Type)→Int→Bool→Int→Sl→Heap→(Int→Heap→Option R)→Option R
structure Lin30 (a:T30):Prop where
  l:∀ {R S:Type} {k:S→Option R} {t0_0:Int} {t0_1:Bool} {t0_2:Int} {t0_3:Sl} {H:Heap} {f:Int→Heap→Option R} {g:Int→Heap→Option S},(∀ r0 H,f r0 H = (g r0 H).bind k)→a R t0_0 t0_1 t0_2 t0_3 H f = (a S t0_0 t0_1 t0_2 t0_3 H g).bind k
def w30 (a30:T30):Fun:=fun R args H K=>match args with
  | [(V.agg [(V.i .u32 t0_0),(V.b t0_1),(V.i .u8 t0_2),(V.sl t0_3)])]=>a30 R t0_0 t0_1 t0_2 t0_3 H (fun r0 H=>K (V.i .i64 r0) H)
  | _=>none
theorem w30_lin {a:T30} (l:Lin30 a):FunLin (w30 a):=by
  intro R S args H f g k h
  unfold w30
  split
  · exact l.l fun _ _=>h _ _
  · rfl
/-- slices.Clip[[]byte,byte] -/
abbrev T31:=(R:Type)→Sl→Heap→(Sl→Heap→Option R)→Option R
structure Lin31 (a:T31):Prop where
  l:∀ {R S:Type} {k:S→Option R} {t0:Sl} {H:Heap} {f:Sl→Heap→Option R} {g:Sl→Heap→Option S},(∀ r0 H,f r0 H = (g r0 H).bind k)→a R t0 H f = (a S t0 H g).bind k
def w31 (a31:T31):Fun:=fun R args H K=>match args with
  | [(V.sl t0)]=>a31 R t0 H (fun r0 H=>K (V.sl r0) H)
  | _=>none
theorem w31_lin {a:T31} (l:Lin31 a):FunLin (w31 a):=by
  intro R S args H f g k h
  unfold w31
  split
  · exact l.l fun _ _=>h _ _
  · rfl
/-- (*segments.Joiner).Hear -/
abbrev T13:=(R:Type)→Option (Nat × Nat)→Int→Int→Bool→Int→Sl→Heap→(Sl→Bool→Int→Heap→Option R)→Option R
structure Lin13 (a:T13):Prop where
  l:∀ {R S:Type} {k:S→Option R} {t0:Option (Nat × Nat)} {t1:Int} {t2_0:Int} {t2_1:Bool} {t2_2:Int} {t2_3:Sl} {H:Heap} {f:Sl→Bool→Int→Heap→Option R} {g:Sl→Bool→Int→Heap→Option S},(∀ r0 r1 r2 H,f r0 r1 r2 H = (g r0 r1 r2 H).bind k)→a R t0 t1 t2_0 t2_1 t2_2 t2_3 H f = (a S t0 t1 t2_0 t2_1 t2_2 t2_3 H g).bind k
def w13 (a13:T13):Fun:=fun R args H K=>match args with
  | [(V.p t0),(V.i .u16 t1),(V.agg [(V.i .u32 t2_0),(V.b t2_1),(V.i .u8 t2_2),(V.sl t2_3)])]=>a13 R t0 t1 t2_0 t2_1 t2_2 t2_3 H (fun r0 r1 r2 H=>K (V.tup [(V.sl r0),(V.b r1),(V.i .i64 r2)]) H)
  | _=>none
theorem w13_lin {a:T13} (l:Lin13 a):FunLin (w13 a):=by
  intro R S args H f g k h
  unfold w13
  split
  · exact l.l fun _ _ _ _=>h _ _
  · rfl
/-- segments.New -/
abbrev T10:=(R:Type)→Int→Heap→(Option (Nat × Nat)→Int→Heap→Option R)→Option R
structure Lin10 (a:T10):Prop where
  l:∀ {R S:Type} {k:S→Option R} {t0:Int} {H:Heap} {f:Option (Nat × Nat)→Int→Heap→Option R} {g:Option (Nat × Nat)→Int→Heap→Option S},(∀ r0 r1 H,f r0 r1 H = (g r0 r1 H).bind k)→a R t0 H f = (a S t0 H g).bind k
def w10 (a10:T10):Fun:=fun R args H K=>match args with
  | [(V.i .i64 t0)]=>a10 R t0 H (fun r0 r1 H=>K (V.tup [(V.p r0),(V.i .i64 r1)]) H)
  | _=>none
theorem w10_lin {a:T10} (l:Lin10 a):FunLin (w10 a):=by
  intro R S args H f g k h
  unfold w10
  split
  · exact l.l fun _ _ _=>h _ _
  · rfl
/-- (*segments.Joiner).Open -/
abbrev T14:=(R:Type)→Option (Nat × Nat)→Heap→(Int→Heap→Option R)→Option R
structure Lin14 (a:T14):Prop where
  l:∀ {R S:Type} {k:S→Option R} {t0:Option (Nat × Nat)} {H:Heap} {f:Int→Heap→Option R} {g:Int→Heap→Option S},(∀ r0 H,f r0 H = (g r0 H).bind k)→a R t0 H f = (a S t0 H g).bind k
def w14 (a14:T14):Fun:=fun R args H K=>match args with
  | [(V.p t0)]=>a14 R t0 H (fun r0 H=>K (V.i .i64 r0) H)
  | _=>none
theorem w14_lin {a:T14} (l:Lin14 a):FunLin (w14 a):=by
  intro R S args H f g k h
  unfold w14
  split
  · exact l.l fun _ _=>h _ _
  · rfl
/-- pointcodelaw25.lives -/
abbrev T9:=(R:Type)→Heap→(Bool→Heap→Option R)→Option R
structure Lin9 (a:T9):Prop where
  l:∀ {R S:Type} {k:S→Option R} {H:Heap} {f:Bool→Heap→Option R} {g:Bool→Heap→Option S},(∀ r0 H,f r0 H = (g r0 H).bind k)→a R H f = (a S H g).bind k
def w9 (a9:T9):Fun:=fun R args H K=>match args with
  | []=>a9 R H (fun r0 H=>K (V.b r0) H)
  | _=>none
theorem w9_lin {a:T9} (l:Lin9 a):FunLin (w9 a):=by
  intro R S args H f g k h
  unfold w9
  split
  · exact l.l fun _ _=>h _ _
  · rfl
/-- bytes.Clone -/
abbrev T32:=(R:Type)→Sl→Heap→(Sl→Heap→Option R)→Option R
structure Lin32 (a:T32):Prop where
  l:∀ {R S:Type} {k:S→Option R} {t0:Sl} {H:Heap} {f:Sl→Heap→Option R} {g:Sl→Heap→Option S},(∀ r0 H,f r0 H = (g r0 H).bind k)→a R t0 H f = (a S t0 H g).bind k
def w32 (a32:T32):Fun:=fun R args H K=>match args with
  | [(V.sl t0)]=>a32 R t0 H (fun r0 H=>K (V.sl r0) H)
  | _=>none
theorem w32_lin {a:T32} (l:Lin32 a):FunLin (w32 a):=by
  intro R S args H f g k h
  unfold w32
  split
  · exact l.l fun _ _=>h _ _
  · rfl
/-- segments.Split -/
abbrev T18:=(R:Type)→Int→Sl→Int→Heap→(Sl→Int→Heap→Option R)→Option R
structure Lin18 (a:T18):Prop where
  l:∀ {R S:Type} {k:S→Option R} {t0:Int} {t1:Sl} {t2:Int} {H:Heap} {f:Sl→Int→Heap→Option R} {g:Sl→Int→Heap→Option S},(∀ r0 r1 H,f r0 r1 H = (g r0 r1 H).bind k)→a R t0 t1 t2 H f = (a S t0 t1 t2 H g).bind k
def w18 (a18:T18):Fun:=fun R args H K=>match args with
  | [(V.i .u32 t0),(V.sl t1),(V.i .i64 t2)]=>a18 R t0 t1 t2 H (fun r0 r1 H=>K (V.tup [(V.sl r0),(V.i .i64 r1)]) H)
  | _=>none
theorem w18_lin {a:T18} (l:Lin18 a):FunLin (w18 a):=by
  intro R S args H f g k h
  unfold w18
  split
  · exact l.l fun _ _ _=>h _ _
  · rfl
/-- pointcodelaw25.cut -/
abbrev T12:=(R:Type)→Int→Int→Sl→Int→Heap→(Int→Sl→ByteArray→Heap→Option R)→Option R
structure Lin12 (a:T12):Prop where
  l:∀ {R S:Type} {k:S→Option R} {t0_0:Int} {t0_1:Int} {t0_2:Sl} {t0_3:Int} {H:Heap} {f:Int→Sl→ByteArray→Heap→Option R} {g:Int→Sl→ByteArray→Heap→Option S},(∀ r0 r1 r2 H,f r0 r1 r2 H = (g r0 r1 r2 H).bind k)→a R t0_0 t0_1 t0_2 t0_3 H f = (a S t0_0 t0_1 t0_2 t0_3 H g).bind k
def w12 (a12:T12):Fun:=fun R args H K=>match args with
  | [(V.agg [(V.i .u8 t0_0),(V.i .u8 t0_1),(V.sl t0_2),(V.i .u8 t0_3)])]=>a12 R t0_0 t0_1 t0_2 t0_3 H (fun r0 r1 r2 H=>K (V.tup [(V.i .u16 r0),(V.sl r1),(V.s r2)]) H)
  | _=>none
theorem w12_lin {a:T12} (l:Lin12 a):FunLin (w12 a):=by
  intro R S args H f g k h
  unfold w12
  split
  · exact l.l fun _ _ _ _=>h _ _
  · rfl
/-- pointcodelaw25.SegmentsSafe -/
abbrev T3:=(R:Type)→Sl→Sl→Int→Heap→(Bool→Heap→Option R)→Option R
structure Lin3 (a:T3):Prop where
  l:∀ {R S:Type} {k:S→Option R} {t0:Sl} {t1:Sl} {t2:Int} {H:Heap} {f:Bool→Heap→Option R} {g:Bool→Heap→Option S},(∀ r0 H,f r0 H = (g r0 H).bind k)→a R t0 t1 t2 H f = (a S t0 t1 t2 H g).bind k
def w3 (a3:T3):Fun:=fun R args H K=>match args with
  | [(V.sl t0),(V.sl t1),(V.i .u8 t2)]=>a3 R t0 t1 t2 H (fun r0 H=>K (V.b r0) H)
  | _=>none
theorem w3_lin {a:T3} (l:Lin3 a):FunLin (w3 a):=by
  intro R S args H f g k h
  unfold w3
  split
  · exact l.l fun _ _=>h _ _
  · rfl
/-- pointcodelaw25.SegmentsJoins -/
abbrev T4:=(R:Type)→Sl→Sl→Int→Heap→(Bool→Heap→Option R)→Option R
structure Lin4 (a:T4):Prop where
  l:∀ {R S:Type} {k:S→Option R} {t0:Sl} {t1:Sl} {t2:Int} {H:Heap} {f:Bool→Heap→Option R} {g:Bool→Heap→Option S},(∀ r0 H,f r0 H = (g r0 H).bind k)→a R t0 t1 t2 H f = (a S t0 t1 t2 H g).bind k
def w4 (a4:T4):Fun:=fun R args H K=>match args with
  | [(V.sl t0),(V.sl t1),(V.i .u8 t2)]=>a4 R t0 t1 t2 H (fun r0 H=>K (V.b r0) H)
  | _=>none
theorem w4_lin {a:T4} (l:Lin4 a):FunLin (w4 a):=by
  intro R S args H f g k h
  unfold w4
  split
  · exact l.l fun _ _=>h _ _
  · rfl
/-- pointcodelaw25.listed -/
abbrev T15:=(R:Type)→Sl→Sl→Heap→(Bool→Heap→Option R)→Option R
structure Lin15 (a:T15):Prop where
  l:∀ {R S:Type} {k:S→Option R} {t0:Sl} {t1:Sl} {H:Heap} {f:Bool→Heap→Option R} {g:Bool→Heap→Option S},(∀ r0 H,f r0 H = (g r0 H).bind k)→a R t0 t1 H f = (a S t0 t1 H g).bind k
def w15 (a15:T15):Fun:=fun R args H K=>match args with
  | [(V.sl t0),(V.sl t1)]=>a15 R t0 t1 H (fun r0 H=>K (V.b r0) H)
  | _=>none
theorem w15_lin {a:T15} (l:Lin15 a):FunLin (w15 a):=by
  intro R S args H f g k h
  unfold w15
  split
  · exact l.l fun _ _=>h _ _
  · rfl
/-- pointcodelaw25.step -/
abbrev T16:=(R:Type)→Sl→Sl→Int→Int→Bool→Int→Sl→Int→Heap→(Sl→Sl→ByteArray→Bool→Int→Heap→Option R)→Option R
structure Lin16 (a:T16):Prop where
  l:∀ {R S:Type} {k:S→Option R} {t0:Sl} {t1:Sl} {t2:Int} {t3_0:Int} {t3_1:Bool} {t3_2:Int} {t3_3:Sl} {t4:Int} {H:Heap} {f:Sl→Sl→ByteArray→Bool→Int→Heap→Option R} {g:Sl→Sl→ByteArray→Bool→Int→Heap→Option S},(∀ r0 r1 r2 r3 r4 H,f r0 r1 r2 r3 r4 H = (g r0 r1 r2 r3 r4 H).bind k)→a R t0 t1 t2 t3_0 t3_1 t3_2 t3_3 t4 H f = (a S t0 t1 t2 t3_0 t3_1 t3_2 t3_3 t4 H g).bind k
def w16 (a16:T16):Fun:=fun R args H K=>match args with
  | [(V.sl t0),(V.sl t1),(V.i .u16 t2),(V.agg [(V.i .u32 t3_0),(V.b t3_1),(V.i .u8 t3_2),(V.sl t3_3)]),(V.i .i64 t4)]=>a16 R t0 t1 t2 t3_0 t3_1 t3_2 t3_3 t4 H (fun r0 r1 r2 r3 r4 H=>K (V.tup [(V.sl r0),(V.sl r1),(V.s r2),(V.b r3),(V.i .i64 r4)]) H)
  | _=>none
theorem w16_lin {a:T16} (l:Lin16 a):FunLin (w16 a):=by
  intro R S args H f g k h
  unfold w16
  split
  · exact l.l fun _ _ _ _ _ _=>h _ _
  · rfl
/-- pointcodelaw25.SegmentsActs -/
abbrev T5:=(R:Type)→Sl→Int→Heap→(Bool→Heap→Option R)→Option R
structure Lin5 (a:T5):Prop where
  l:∀ {R S:Type} {k:S→Option R} {t0:Sl} {t1:Int} {H:Heap} {f:Bool→Heap→Option R} {g:Bool→Heap→Option S},(∀ r0 H,f r0 H = (g r0 H).bind k)→a R t0 t1 H f = (a S t0 t1 H g).bind k
def w5 (a5:T5):Fun:=fun R args H K=>match args with
  | [(V.sl t0),(V.i .u8 t1)]=>a5 R t0 t1 H (fun r0 H=>K (V.b r0) H)
  | _=>none
theorem w5_lin {a:T5} (l:Lin5 a):FunLin (w5 a):=by
  intro R S args H f g k h
  unfold w5
  split
  · exact l.l fun _ _=>h _ _
  · rfl
/-- pointcodelaw25.full -/
abbrev T17:=(R:Type)→Heap→(Bool→Heap→Option R)→Option R
structure Lin17 (a:T17):Prop where
  l:∀ {R S:Type} {k:S→Option R} {H:Heap} {f:Bool→Heap→Option R} {g:Bool→Heap→Option S},(∀ r0 H,f r0 H = (g r0 H).bind k)→a R H f = (a S H g).bind k
def w17 (a17:T17):Fun:=fun R args H K=>match args with
  | []=>a17 R H (fun r0 H=>K (V.b r0) H)
  | _=>none
theorem w17_lin {a:T17} (l:Lin17 a):FunLin (w17 a):=by
  intro R S args H f g k h
  unfold w17
  split
  · exact l.l fun _ _=>h _ _
  · rfl
/-- pointcodelaw25.SegmentsKnown -/
abbrev T6:=(R:Type)→Heap→(Bool→Heap→Option R)→Option R
structure Lin6 (a:T6):Prop where
  l:∀ {R S:Type} {k:S→Option R} {H:Heap} {f:Bool→Heap→Option R} {g:Bool→Heap→Option S},(∀ r0 H,f r0 H = (g r0 H).bind k)→a R H f = (a S H g).bind k
/-- slices.SortFunc[[]segments.Lost,segments.Lost] -/
abbrev T25:=(R:Type)→Sl→Heap→(Heap→Option R)→Option R
structure Lin25 (a:T25):Prop where
  l:∀ {R S:Type} {k:S→Option R} {t0:Sl} {H:Heap} {f:Heap→Option R} {g:Heap→Option S},(∀ H,f H = (g H).bind k)→a R t0 H f = (a S t0 H g).bind k
def w25 (a25:T25):Fun:=fun R args H K=>match args with
  | [(V.sl t0),(V.fn (.func 26) [] [])]=>a25 R t0 H (fun H=>K (V.tup []) H)
  | _=>none
theorem w25_lin {a:T25} (l:Lin25 a):FunLin (w25 a):=by
  intro R S args H f g k h
  unfold w25
  split
  · exact l.l fun _=>h _ _
  · rfl
end Go.Proofs.Ytobebcfkddimkaa


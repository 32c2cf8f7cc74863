/- An operation's answer is handed on once: 'evOp .. K' is K of what the operation gives. -/
import Derived.Test.YteipplgcdbaokaaDoorAm17
namespace Go.Proofs.YteipplgcdbaokaaDoor.AM
open Go Go.RowKit

section
variable {R S : Type} {P : Program} {H : Heap}

theorem bl {α : Type} {x : Option α} {f : α → Option R} {g : α → Option S} {k : S → Option R} (h : ∀ a, f a = (g a).bind k) : x.bind f = (x.bind g).bind k := by
  cases x <;> simp [h]
theorem il {c : Prop} [Decidable c] {a a' : Option R} {b b' : Option S} {k : S → Option R} (h : a = b.bind k) (h' : a' = b'.bind k) : (if c then a else a') = (if c then b else b').bind k := by
  split <;> assumption
theorem il0 {c : Prop} [Decidable c] {a : Option R} {b : Option S} {k : S → Option R} (h : a = b.bind k) : (if c then a else none) = (if c then b else none).bind k := il h rfl
theorem il1 {c : Prop} [Decidable c] {a : Option R} {b : Option S} {k : S → Option R} (h : a = b.bind k) : (if c then none else a) = (if c then none else b).bind k := il rfl h
theorem sl_lin {x : Bool} {a a' : Option R} {b b' : Option S} {k : S → Option R} (h : a = b.bind k) (h' : a' = b'.bind k) : sel x a a' = (sel x b b').bind k := by
  cases x <;> assumption

theorem exC_lin {c : CK} {v : V} {f : V → Option R} {g : V → Option S} {k : S → Option R} (h : ∀ v, f v = (g v).bind k) : exC c v f = (exC c v g).bind k := by
  cases c <;> first | exact bl fun a => h _ | exact il0 (h _)
theorem ldC_lin {c : CK} {id off : Nat} {f : V → Option R} {g : V → Option S} {k : S → Option R} (h : ∀ v, f v = (g v).bind k) : ldC H c id off f = (ldC H c id off g).bind k := by
  cases c <;> first | exact bl fun a => h _ | exact bl fun a => il0 (h _)
theorem ldCs_lin {id : Nat} : ∀ (cs : List CK) (off : Nat) {f : List V → Option R} {g : List V → Option S} {k : S → Option R}, (∀ v, f v = (g v).bind k) → ldCs H cs id off f = (ldCs H cs id off g).bind k := by
  intro cs
  induction cs with
  | nil => intro off f g k h; exact h _
  | cons c cs ih => intro off f g k h; exact ldC_lin fun v => ih _ fun vs => h _
theorem ldT_lin {t : TypeId} {id off : Nat} {f : V → Option R} {g : V → Option S} {k : S → Option R} (h : ∀ v, f v = (g v).bind k) : ldT P H t id off f = (ldT P H t id off g).bind k := by
  unfold ldT
  split
  · split
    · split
      · exact il0 (il (ldCs_lin _ _ fun vs => h _) (bl fun vs => h _))
      · rfl
    · exact ldC_lin h
  · rfl
theorem exCs_lin : ∀ (cs : List CK) (vs : List V) {f : List V → Option R} {g : List V → Option S} {k : S → Option R}, (∀ v, f v = (g v).bind k) → exCs cs vs f = (exCs cs vs g).bind k := by
  intro cs
  induction cs with
  | nil => intro vs f g k h; cases vs with | nil => exact h _ | cons _ _ => rfl
  | cons c cs ih => intro vs f g k h; cases vs with | nil => rfl | cons v vs => exact exC_lin fun v => ih _ fun vs => h _
theorem exT_lin {t : TypeId} {v : V} {f : V → Option R} {g : V → Option S} {k : S → Option R} (h : ∀ v, f v = (g v).bind k) : exT P t v f = (exT P t v g).bind k := by
  unfold exT
  split
  · split
    · split
      · exact il (bl fun vs => exCs_lin _ _ fun vs => h _) (bl fun vs => h _)
      · rfl
    · exact exC_lin h
  · rfl
theorem exRs_lin : ∀ (ts : List TypeId) (vs : List V) {f : List V → Option R} {g : List V → Option S} {k : S → Option R}, (∀ v, f v = (g v).bind k) → exRs P ts vs f = (exRs P ts vs g).bind k := by
  intro ts
  induction ts with
  | nil => intro vs f g k h; cases vs <;> first | exact h _ | rfl
  | cons t ts ih => intro vs f g k h; cases vs <;> first | rfl | exact exT_lin fun v => ih _ fun vs => h _
theorem exR_lin {t : TypeId} {v : V} {f : V → Option R} {g : V → Option S} {k : S → Option R} (h : ∀ v, f v = (g v).bind k) : exR P t v f = (exR P t v g).bind k := by
  unfold exR
  split
  · split
    · exact exRs_lin _ _ fun vs => h _
    · rfl
  · exact exT_lin h
theorem stT_lin {t : TypeId} {id off : Nat} {v : V} {f : Heap → Option R} {g : Heap → Option S} {k : S → Option R} (h : ∀ v, f v = (g v).bind k) : stT P H t id off v f = (stT P H t id off v g).bind k := by
  unfold stT
  split
  · rfl
  · cases v <;> exact il0 (bl fun vs => h _)
theorem evInt_lin {op : BinOp} {k0 : IntKind} {n m : Int} {f : V → Option R} {g : V → Option S} {k : S → Option R} (h : ∀ v, f v = (g v).bind k) : evInt op k0 n m f = (evInt op k0 n m g).bind k := by
  cases op <;> first | exact h _ | exact il1 (h _) | rfl
theorem catS_lin {x y : ByteArray} {f : ByteArray → Option R} {g : ByteArray → Option S} {k : S → Option R} (h : ∀ v, f v = (g v).bind k) : catS x y f = (catS x y g).bind k := il0 (h _)
theorem evStr_lin {op : BinOp} {x y : ByteArray} {f : V → Option R} {g : V → Option S} {k : S → Option R} (h : ∀ v, f v = (g v).bind k) : evStr op x y f = (evStr op x y g).bind k := by
  cases op <;> first | exact h _ | exact il1 (h _) | exact catS_lin fun z => h _ | rfl
theorem evBin_lin {op : BinOp} {t : TypeId} {c : Bool} {a b : V} {f : V → Option R} {g : V → Option S} {k : S → Option R} (h : ∀ v, f v = (g v).bind k) : evBin P op t c a b f = (evBin P op t c a b g).bind k := by
  unfold evBin
  split
  · split
    · refine bl fun n => ?_
      cases b <;> first | exact il1 (h _) | rfl
    · refine bl fun n => ?_
      cases b <;> first | exact il1 (h _) | rfl
    · exact bl fun n => bl fun m => evInt_lin h
  · exact bl fun n => bl fun m => evStr_lin h
  · split
    · exact bl fun n => il0 (bl fun m => h _)
    · exact bl fun n => il0 (bl fun m => h _)
    · rfl
  · split
    · exact il1 (bl fun m => h _)
    · exact il1 (bl fun m => h _)
    · rfl
  · rfl
theorem slOf_lin {sz : Nat} {x : Sl} {lo hi mx : Option Int} {f : Sl → Option R} {g : Sl → Option S} {k : S → Option R} (h : ∀ v, f v = (g v).bind k) : slOf sz x lo hi mx f = (slOf sz x lo hi mx g).bind k := by
  unfold slOf
  refine il1 ?_
  split
  · exact il0 (h _)
  · refine il0 ?_
    split
    · exact il0 (h _)
    · exact il0 (h _)
theorem appendV_lin {e : TypeId} {sz bytes : Nat} {x : Sl} {n : Nat} {new : List V} {f : Sl → Heap → Option R} {g : Sl → Heap → Option S} {k : S → Option R} (h : ∀ v H, f v H = (g v H).bind k) : appendV H e sz bytes x n new f = (appendV H e sz bytes x n new g).bind k := by
  unfold appendV
  refine il (h _ _) (il1 ?_)
  split
  · exact il0 (h _ _)
  · split
    · exact il (bl fun H' => h _ _) (il0 (bl fun o => h _ _))
    · refine il0 ?_
      split
      · exact il0 (il (bl fun H' => h _ _) (il0 (h _ _)))
      · rfl
theorem partV_lin {t : TypeId} {cs : List V} {off : Nat} {f : V → Option R} {g : V → Option S} {k : S → Option R} (h : ∀ v, f v = (g v).bind k) : partV P t cs off f = (partV P t cs off g).bind k := by
  unfold partV
  split
  · split
    · exact il0 (h _)
    · split
      · exact h _
      · rfl
  · rfl
theorem minV_lin {mx : Bool} : ∀ (vs : List V) (v : V) {f : V → Option R} {g : V → Option S} {k : S → Option R}, (∀ v, f v = (g v).bind k) → minV mx v vs f = (minV mx v vs g).bind k := by
  intro vs
  induction vs with
  | nil => intro v f g k h; cases v <;> exact h _
  | cons u vs ih =>
    intro v f g k h
    cases v <;> cases u <;> first | rfl | exact ih _ h
theorem mapDel_lin {kt : TypeId} {kk : V} {m : V} {f : V → Heap → Option R} {g : V → Heap → Option S} {k : S → Option R} (h : ∀ v H, f v H = (g v H).bind k) :
    (if keyV P kt kk then m.asM.bind fun r => match r with
      | none => f (.tup []) H
      | some id => (getMap H (some id)).bind fun mm => (findE P kt kk mm.1 0).bind fun q => match q with
        | some (j, _) => f (.tup []) (H.put id (.map (mm.1.eraseIdx j) mm.2))
        | none => f (.tup []) H
      else none) = (if keyV P kt kk then m.asM.bind fun r => match r with
      | none => g (.tup []) H
      | some id => (getMap H (some id)).bind fun mm => (findE P kt kk mm.1 0).bind fun q => match q with
        | some (j, _) => g (.tup []) (H.put id (.map (mm.1.eraseIdx j) mm.2))
        | none => g (.tup []) H
      else none).bind k := by
  refine il0 (bl fun r => ?_)
  cases r with
  | none => exact h _ _
  | some id => refine bl fun mm => bl fun q => ?_; cases q <;> exact h _ _
theorem sliceData_lin {s : Sl} {f : Option (Nat × Nat) → Heap → Option R} {g : Option (Nat × Nat) → Heap → Option S} {k : S → Option R} (h : ∀ v H, f v H = (g v H).bind k) : sliceData s H f = (sliceData s H g).bind k := by
  unfold sliceData
  split
  · exact h _ _
  · split
    · exact il1 (h _ _)
    · exact il1 (h _ _)
theorem unsafeStr_lin {t : TypeId} {p : Option (Nat × Nat)} {n : Int} {f : ByteArray → Heap → Option R} {g : ByteArray → Heap → Option S} {k : S → Option R} (h : ∀ v H, f v H = (g v H).bind k) : unsafeStr P H t p n f = (unsafeStr P H t p n g).bind k := by
  unfold unsafeStr
  refine il (h _ _) ?_
  split
  · rfl
  · split
    · exact bl fun s => il0 (h _ _)
    · rfl
theorem evBuiltin_lin {b : Builtin} {ts : List TypeId} {args : List V} {f : V → Heap → Option R} {g : V → Heap → Option S} {k : S → Option R} (h : ∀ v H, f v H = (g v H).bind k) : evBuiltin P H b ts args f = (evBuiltin P H b ts args g).bind k := by
  unfold evBuiltin
  split
  · split
    · exact bl fun a => h _ _
    · exact bl fun a => h _ _
    · exact h _ _
    · exact bl fun a => bl fun m => h _ _
    · rfl
  · split
    · refine bl fun a => ?_
      split
      · exact h _ _
      · rfl
    · rfl
  · split
    · refine il0 (bl fun a => ?_)
      split
      · exact bl fun a => bl fun m => appendV_lin fun v H => h _ _
      · exact il1 (bl fun a => appendV_lin fun v H => h _ _)
      · split
        · exact il0 (bl fun a => appendV_lin fun v H => h _ _)
        · rfl
      · rfl
    · rfl
  · split
    · refine il1 (bl fun a => ?_)
      split
      · refine bl fun a => bl fun m => ?_
        split
        · exact il (h _ _) (bl fun a => h _ _)
        · exact h _ _
      · refine il1 (bl fun a => ?_)
        split
        · exact il (h _ _) (bl fun a => h _ _)
        · exact h _ _
      · rfl
    · rfl
  · exact minV_lin _ _ fun v => h _ _
  · exact minV_lin _ _ fun v => h _ _
  · split
    · exact mapDel_lin h
    · rfl
  · split
    · exact mapDel_lin h
    · rfl
  · rfl
  · exact bl fun s => sliceData_lin fun p H => h _ _
  · split
    · exact bl fun p => unsafeStr_lin fun s H => h _ _
    · rfl
  · rfl

/-- functions by number, whose answers are handed on once -/
def FunLin (F : Fun) : Prop := ∀ (R S : Type) (args : List V) (H : Heap) (f : V → Heap → Option R) (g : V → Heap → Option S) (k : S → Option R), (∀ v H, f v H = (g v H).bind k) → F R args H f = (F S args H g).bind k
def EnvLin (E : FEnv) : Prop := ∀ g F, (g, F) ∈ E → FunLin F

theorem call_lin {E : FEnv} (hE : EnvLin E) {fi : FuncId} {args : List V} {f : V → Heap → Option R} {g : V → Heap → Option S} {k : S → Option R} (h : ∀ v H, f v H = (g v H).bind k) : E.call fi args H f = (E.call fi args H g).bind k := by
  induction E with
  | nil => rfl
  | cons p E ih =>
    obtain ⟨n, F⟩ := p
    exact il (hE n F (by simp) R S args H f g k h) (ih fun g' F' hm => hE g' F' (by simp [hm]))

theorem mapSet_lin {t : TypeId} {m kk v : V} {f : V → Heap → Option R} {g : V → Heap → Option S} {k : S → Option R} (h : ∀ v H, f v H = (g v H).bind k) : mapSet P H t m kk v f = (mapSet P H t m kk v g).bind k := by
  unfold mapSet
  split
  · refine il0 (bl fun r => ?_)
    cases r with
    | none => rfl
    | some id =>
      refine bl fun mm => bl fun q => ?_
      cases q with
      | none => exact h _ _
      | some p =>
        simp only
        split
        · exact il0 (h _ _)
        · rfl
  · rfl

theorem invk_lin {E : FEnv} (hE : EnvLin E) {v : V} {name : String} {args : List V} {f : V → Heap → Option R} {g : V → Heap → Option S} {k : S → Option R} (h : ∀ v H, f v H = (g v H).bind k) : invk P E v name args H f = (invk P E v name args H g).bind k := by
  unfold invk
  split
  · split
    · exact call_lin hE h
    · rfl
  · rfl
theorem callV_lin {E : FEnv} (hE : EnvLin E) {v : V} {args : List V} {f : V → Heap → Option R} {g : V → Heap → Option S} {k : S → Option R} (h : ∀ v H, f v H = (g v H).bind k) : callV E v args H f = (callV E v args H g).bind k := by
  unfold callV
  split
  · exact call_lin hE h
  · rfl
theorem nextV_lin {i : Nat} {f : V → Heap → Option R} {g : V → Heap → Option S} {k : S → Option R} (h : ∀ v H, f v H = (g v H).bind k) : nextV H i f = (nextV H i g).bind k := by
  unfold nextV
  split
  · refine bl fun mm => il0 ?_
    split
    · exact h _ _
    · exact h _ _
    · rfl
  · rfl
theorem entryV_lin {i : Nat} {f : V → Heap → Option R} {g : V → Heap → Option S} {k : S → Option R} (h : ∀ v H, f v H = (g v H).bind k) : entryV H i f = (entryV H i g).bind k := by
  unfold entryV
  split
  · refine bl fun mm => il0 ?_
    split
    · split
      · exact h _ _
      · rfl
    · rfl
  · rfl
theorem evOp_lin {E : FEnv} (hE : EnvLin E) {val : Operand → Option V} {o : Op} {ty : TypeId} {f : V → Heap → Option R} {g : V → Heap → Option S} {k : S → Option R} (h : ∀ v H, f v H = (g v H).bind k) : evOp P E val H o ty f = (evOp P E val H o ty g).bind k := by
  cases o with
  | move x => exact bl fun v => h _ _
  | assign x => exact bl fun v => h _ _
  | pick c a b =>
    refine bl fun c => ?_
    cases c with
    | b x =>
      simp only
      split
      · exact h _ _
      · exact sl_lin (bl fun a => h _ _) (bl fun b => h _ _)
    | _ => rfl
  | alloc e => exact bl fun v => h _ _
  | box e x => exact bl fun v => h _ _
  | build t parts =>
    refine bl fun z => bl fun ps => ?_
    split
    · exact bl fun pl => bl fun cs => h _ _
    · exact il1 (bl fun cs => h _ _)
    · rfl
  | buildSlice t len parts =>
    simp only [evOp]
    split
    · exact il1 (il1 (bl fun z => bl fun ps => bl fun cs => h _ _))
    · rfl
  | load t a =>
    refine bl fun a => ?_
    cases a with
    | p x => exact bl fun q => ldT_lin fun v => h _ _
    | _ => rfl
  | store t a x =>
    refine bl fun a => bl fun v => ?_
    cases a with
    | p x => exact bl fun q => stT_lin fun v => h _ _
    | _ => rfl
  | nilCheck x =>
    refine bl fun v => ?_
    unfold nilCk
    split
    · exact bl fun q => h _ _
    · exact il0 (h _ _)
    · exact il0 (h _ _)
  | binOp op t x y yt => exact bl fun a => bl fun b => evBin_lin fun v => h _ _
  | unOp op t x =>
    refine bl fun v => ?_
    split
    · exact bl fun b => h _ _
    · split
      · exact bl fun b => h _ _
      · rfl
    · split
      · exact bl fun b => h _ _
      · rfl
    · rfl
  | convert src dst x =>
    refine bl fun v => ?_
    split
    · exact bl fun b => h _ _
    · exact bl fun b => h _ _
    · split
      · exact bl fun b => il0 (h _ _)
      · rfl
    · split
      · exact bl fun b => bl fun s => h _ _
      · rfl
    · split
      · exact bl fun b => il0 (h _ _)
      · rfl
    · rfl
  | makeInterface t x =>
    refine bl fun v => ?_
    split
    · rfl
    · exact h _ _
    · rfl
  | makeFunc fn a b => exact bl fun a => bl fun c => h _ _
  | makeMap t r =>
    cases r with
    | none => exact h _ _
    | some x =>
      refine bl fun v => ?_
      split
      · exact h _ _
      · rfl
  | makeSlice t l c =>
    refine bl fun l => bl fun c => ?_
    split
    · exact il1 (il0 (bl fun z => h _ _))
    · rfl
  | slice t x lo hi mx =>
    refine bl fun v => bl fun l => bl fun hh => bl fun m => ?_
    split
    · cases m with
      | none => exact bl fun s => il0 (h _ _)
      | some _ => rfl
    · exact il1 (bl fun s => slOf_lin fun r => h _ _)
    · refine il1 ?_
      cases v with
      | p x => exact bl fun q => slOf_lin fun r => h _ _
      | _ => rfl
    · rfl
  | fieldAddr s x f =>
    refine bl fun v => ?_
    split
    · split
      · refine il1 ?_
        cases v with
        | p x => exact bl fun q => h _ _
        | _ => rfl
      · rfl
    · rfl
  | field t x f =>
    refine bl fun v => ?_
    split
    · split
      · exact bl fun cs => partV_lin fun v => h _ _
      · rfl
    · rfl
  | indexAddr t x ix =>
    refine bl fun v => bl fun i => ?_
    cases i with
    | i kk n =>
      simp only
      split
      · exact il1 (bl fun s => il0 (bl fun q => h _ _))
      · refine il1 ?_
        cases v with
        | p x => exact bl fun q => il0 (h _ _)
        | _ => rfl
      · rfl
    | _ => rfl
  | index t x ix =>
    refine bl fun v => bl fun i => ?_
    cases i with
    | i kk n =>
      simp only
      split
      · exact bl fun s => il0 (h _ _)
      · exact bl fun cs => il0 (partV_lin fun v => exT_lin fun v => h _ _)
      · rfl
    | _ => rfl
  | lookup t m kk ok =>
    refine bl fun m => bl fun kk => ?_
    split
    · refine il0 (bl fun r => bl fun mm => bl fun q => ?_)
      cases q with
      | none => exact bl fun z => h _ _
      | some p => exact exT_lin fun v => h _ _
    · rfl
  | mapUpdate t m kk x => exact bl fun m => bl fun kk => bl fun v => mapSet_lin h
  | insert t m kk x => exact bl fun m => bl fun kk => bl fun v => mapSet_lin h
  | mapEntry t m kk =>
    refine bl fun m => bl fun kk => ?_
    split
    · refine il0 (bl fun r => ?_)
      cases r with
      | none => rfl
      | some id =>
        refine bl fun mm => bl fun q => ?_
        cases q with
        | none => exact bl fun z => h _ _
        | some p =>
          simp only
          split
          · exact il0 (exT_lin fun v => h _ _)
          · rfl
    · rfl
  | entryStore t m s x =>
    refine bl fun m => bl fun s => bl fun v => bl fun r => ?_
    split
    · refine bl fun mm => bl fun j => ?_
      split
      · exact h _ _
      · rfl
    · rfl
  | extract t i =>
    refine bl fun v => ?_
    cases v with
    | tup vs =>
      simp only
      split
      · exact h _ _
      · rfl
    | _ => rfl
  | call c =>
    refine bl fun args => ?_
    split
    · exact evBuiltin_lin h
    · refine bl fun v => ?_
      unfold invk
      split
      · split
        · exact call_lin hE fun v H => exR_lin fun v => h v H
        · rfl
      · rfl
    · refine bl fun v => ?_
      unfold callV
      split
      · exact call_lin hE fun v H => exR_lin fun v => h v H
      · rfl
  | range t x =>
    refine bl fun v => ?_
    split
    · exact bl fun r => bl fun id => bl fun mm => h _ _
    · rfl
  | next it s =>
    cases s with
    | false => exact bl fun v => bl fun p => bl fun q => il0 (nextV_lin h)
    | true => rfl
  | entry it => exact bl fun v => bl fun p => bl fun q => il0 (entryV_lin h)
  | _ => rfl

end
end Go.Proofs.YteipplgcdbaokaaDoor.AM

/- slices.SortFunc over the lost pieces: its contract. -/
import Derived.Test.YtobebcfkddimkaaTK0
import Derived.Test.YtobebcfkddimkaaAm45
import Derived.Test.YtobebcfkddimkaaShelf
namespace Go.Proofs.Ytobebcfkddimkaa
open Go AM Go.RowKit Go.Shelf Go.Sort
set_option linter.unusedVariables false
set_option linter.unusedSimpArgs false

def cmp1 (x y:Int):Int:=if x < y then -1 else if x > y then 1 else 0
def cmpK (a b:Ky):Int:=if cmp1 a.1 b.1 ≠ 0 then cmp1 a.1 b.1 else cmp1 a.2 b.2
theorem s28 {R:Type} (x y:Int) (H:Heap) (K:Int→Heap→Option R):g28 R x y H K = K (cmp1 x y) H:=by
  have h1:(x != x) = false:=by simp
  have h2:(y != y) = false:=by simp
  simp only [g28,g28_r,g28_p0,g35,g35_r,g35_p0,h1,h2,sel_false]
  unfold cmp1
  by_cases a:x < y
  · rw [decide_eq_true a,sel_true,if_pos a]
  · rw [decide_eq_false a,sel_false,if_neg a]
    by_cases b:x > y
    · rw [decide_eq_true b,sel_true,if_pos b]
    · rw [decide_eq_false b,sel_false,if_neg b]
theorem s29 {R:Type} (x y:Int) (H:Heap) (K:Int→Heap→Option R):g29 R x y H K = K (cmp1 x y) H:=by
  have h1:(x != x) = false:=by simp
  have h2:(y != y) = false:=by simp
  simp only [g29,g29_r,g29_p0,g36,g36_r,g36_p0,h1,h2,sel_false]
  unfold cmp1
  by_cases a:x < y
  · rw [decide_eq_true a,sel_true,if_pos a]
  · rw [decide_eq_false a,sel_false,if_neg a]
    by_cases b:x > y
    · rw [decide_eq_true b,sel_true,if_pos b]
    · rw [decide_eq_false b,sel_false,if_neg b]
theorem s27 {R:Type} {H:Heap} {i:Nat} {x y:Int} (hi:H.get i = some (.cells [.i .i64 x,.i .i64 y] 3 false)) (K:Int→Heap→Option R):g27 R ⟨some (i,0),2,.ex 2⟩ H K = K (if x ≠ 0 then x else y) H:=by
  have l0:H.ldI .i64 i (0 + Int.toNat 0 * 1) = some x:=ldI_of hi rfl
  have l1:H.ldI .i64 i (0 + Int.toNat 1 * 1) = some y:=ldI_of hi rfl
  have e1:IntKind.wrap .i64 (0 + 1) = 1:=rfl
  have e2:IntKind.wrap .i64 (1 + 1) = 2:=rfl
  have dd:g27 R ⟨some (i,0),2,.ex 2⟩ H K = g27_p6 R ⟨some (i,0),2,.ex 2⟩ H K:=rfl
  rw [dd]
  simp only [g27_p6,g27_p0,g27_p5,g27_p3,g27_p2]
  by_cases hx:x ≠ 0
  · rw [if_pos hx]
    have t0:g27_p2_b (0,⟨some (i,0),2,.ex 2⟩,2,0) H = some (.up (.inr x),H):=by
      simp only [g27_p2_b,g27_p1]
      rw [show decide ((0:Int) < 2) = true from rfl,sel_true,if_pos (by decide),Option.bind_some,l0,Option.bind_some]
      rw [show (x != 0) = true by simpa using hx,sel_true]
    have:=tlim_up t0
    rw [show ((2:Nat):Int) = 2 from rfl,this]
    rfl
  · have hx0:x = 0:=by omega
    subst hx0
    rw [if_neg hx]
    have t0:g27_p2_b (0,⟨some (i,0),2,.ex 2⟩,2,0) H = some (.go (0,⟨some (i,0),2,.ex 2⟩,2,1),H):=by
      simp only [g27_p2_b,g27_p1]
      rw [show decide ((0:Int) < 2) = true from rfl,sel_true,if_pos (by decide),Option.bind_some,l0,Option.bind_some,e1]
      rfl
    by_cases hy:y ≠ 0
    · have t1 : g27_p2_b (0, ⟨some (i, 0), 2, .ex 2⟩, 2, 1) H = some (.up (.inr y), H) := by
        simp only [g27_p2_b,g27_p1]
        rw [show decide ((1:Int) < 2) = true from rfl,sel_true,if_pos (by decide),Option.bind_some,l1,Option.bind_some]
        rw [show (y != 0) = true by simpa using hy,sel_true]
      rw [show ((2:Nat):Int) = 2 from rfl,tlim_go t0,tlim_up t1]
      rfl
    · have hy0:y = 0:=by omega
      subst hy0
      have t1:g27_p2_b (0,⟨some (i,0),2,.ex 2⟩,2,1) H = some (.go (0,⟨some (i,0),2,.ex 2⟩,2,2),H):=by
        simp only [g27_p2_b,g27_p1]
        rw [show decide ((1:Int) < 2) = true from rfl,sel_true,if_pos (by decide),Option.bind_some,l1,Option.bind_some,e2]
        rfl
      have t2:g27_p2_b (0,⟨some (i,0),2,.ex 2⟩,2,2) H = some (.up (.inl 0),H):=by
        simp only [g27_p2_b,g27_p1]
        rw [show decide ((2:Int) < 2) = false from rfl,sel_false]
      rw [show ((2:Nat):Int) = 2 from rfl,tlim_go t0,tlim_go t1,tlim_up t2]
      rfl
theorem s26 {R:Type} (a b:Ky) (H:Heap) (K:Int→Heap→Option R):∃ H',∀ (R:Type) (K:Int→Heap→Option R),g26 R a.1 a.2 b.1 b.2 H K = K (cmpK a b) H':=by
  refine ⟨H.new (.cells [.i .i64 (cmp1 a.1 b.1),.i .i64 (cmp1 a.2 b.2)] 3 false),fun R K=>?_⟩
  simp only [g26,g26_r,g26_p0,s28,s29,alo]
  rw [s27 (Heap.gnew _ _)]
  rfl
def CK:Enc Ky 2 where
  enc k:=[.int .u16 k.1,.int .u32 k.2]
  encV:=encK
  len _:=rfl
  one x v hv:=by simp only [List.mem_cons,List.not_mem_nil,or_false] at hv; rcases hv with rfl | rfl <;> rfl
  rel ρ x:=.cons _ _ _ _ (.i _ _) (.cons _ _ _ _ (.i _ _) .nil)
  only ρ x ys h:=by
    cases h with | cons _ _ _ _ h1 h2 =>
    cases h2 with | cons _ _ _ _ h3 h4 =>
    cases h1; cases h3; cases h4; rfl
theorem cmpK_lt (a b:Ky):ltOf cmpK a b = decide (a.1 < b.1 ∨ a.1 = b.1∧a.2 < b.2):=by
  unfold ltOf cmpK cmp1
  by_cases h1:a.1 < b.1
  · simp [h1]
  · by_cases h2:a.1 > b.1
    · simp [h1,h2]; omega
    · have h3:a.1 = b.1:=by omega
      by_cases h4:a.2 < b.2
      · simp [h3,h4]
      · by_cases h5:a.2 > b.2 <;> simp [h3,h4,h5]
theorem cmpK_swo:SWO (ltOf cmpK) where
  irrefl x:=by rw [cmpK_lt]; simp
  trans x y z h1 h2:=by rw [cmpK_lt] at *; simp at *; omega
  ntrans x y z h1 h2:=by rw [cmpK_lt] at *; simp at *; omega
theorem cmpK_tot (x y:Ky) (h1:ltOf cmpK x y = false) (h2:ltOf cmpK y x = false):x = y:=by
  rw [cmpK_lt] at *
  simp at *
  exact Prod.ext (by omega) (by omega)
/-- keys out of cells -/
def decL:List V→Option (List Ky)
  | []=>some []
  | .i .u16 a :: .i .u32 b :: r=>(decL r).bind fun l=>some ((a,b) :: l)
  | _=>none
theorem decL_eq:∀ {vs:List V} {l:List Ky},decL vs = some l→vs = (l.map encK).flatten:=by
  intro vs
  induction vs using decL.induct with
  | case1=>intro l h; simp [decL] at h; subst h; rfl
  | case2 a b r ih =>
    intro l h
    simp only [decL] at h
    obtain ⟨l',h1,h2⟩:=Option.bind_eq_some_iff.1 h
    simp only [Option.some.injEq] at h2
    subst h2
    rw [ih h1]
    rfl
  | case3 vs h1 h2 =>
    intro l h
    unfold decL at h
    split at h
    · exact absurd rfl h1
    · rename_i a b r; exact absurd rfl (h2 a b r)
    · cases h
theorem decL_enc (l:List Ky):decL ((l.map encK).flatten) = some l:=by
  induction l with
  | nil=>rfl
  | cons k l ih =>
    simp only [List.map_cons,List.flatten_cons,encK,List.cons_append,List.nil_append,decL,ih,Option.bind_some]
noncomputable def g25:T25:=fun R s H K =>
  if s.len = 0 then K H else match s.a with
    | some (id,off)=>match H.get id with
      | some (.cells vs e false)=>if off + s.len * 2 ≤ vs.length∧s.len < 4611686018427387904 then (decL ((vs.drop off).take (s.len * 2))).bind fun l=>K (H.put id (.cells (splice vs off ((sortBy cmpK l).map encK).flatten) e false)) else none
      | _=>none
    | none=>none
theorem g25_lin:Lin25 g25:=⟨fun {R S k s H f g} h=>by
  unfold g25
  split
  · exact h _
  · split
    · split
      · exact il0 (bl fun l=>h _)
      · rfl
    · rfl⟩
theorem cmp26 (blk off size:Nat) (w:World):CmpLays Try.prog 26 #[] CK.enc 2 cmpK blk off size w :=
  cmpLays_of ok26 (by kernel_rfl) (fun w=>⟨GOkOf.nil _ _,GIntOf.nil _ _⟩) CK cmpK (fun x y=>by
    obtain ⟨H',h⟩:=s26 (R:=V × Heap) x y noHeap (fun r H=>ret2 (.i .i64 r) H)
    exact ⟨H',h _ _⟩) blk off size w
theorem ok25:FunOK Try.prog 25 (w25 g25):=by
  refine .mk (fun args w=>enters_run (by kernel_rfl) args w) (fun R args H K r N w0 w ρ xs hk hr hh=>?_)
  unfold w25 at hk
  split at hk
  · rename_i s
    cases hr with
    | cons _ _ _ _ r1 r2 =>
    cases r2 with
    | cons _ _ _ _ r3 r4 =>
    cases r4
    cases r3 with
    | fn _ _ _ xs1 ys1 ra rc =>
    cases ra; cases rc
    unfold g25 at hk
    split at hk
    · rename_i h0
      have fin:∀ (p:Option Addr) (cap:Nat),Calls Try.prog 25 #[.slice p 0 cap,.func (.func 26) #[] #[]] w fun e w'=>∃ c,e = .returned c∧∃ v H' ρ',ρ.le ρ'∧Rel ρ' v c∧HR N w0 ρ' H' w'∧K v H' = some r :=
        fun p cap=>(AnyF.slices_SortFunc_none Try.sortL p cap (.func (.func 26) #[] #[]) w).mono fun e w' ⟨he,hw⟩=>⟨_,he,.tup [],H,ρ,ρ.le_refl,.tup [] [] .nil,hw ▸ hh,hk⟩
      cases r1 with
      | sn=>exact fin none 0
      | sx id off len c b a h1 h2 h3=>simp only at h0; subst h0; exact fin _ _
      | so id off len sz cap b a h1 h2 h3 h4 h5=>simp only at h0; subst h0; exact fin _ _
    · rename_i h0
      split at hk
      · rename_i id off ha
        split at hk
        · rename_i vs e hg
          split at hk
          · rename_i hb
            obtain ⟨l,hl,hk⟩:=Option.bind_eq_some_iff.1 hk
            have hl':=decL_eq hl
            have hlen:l.length = s.len:=by
              have:=congrArg List.length hl'
              rw [show (l.map encK).flatten.length = l.length * 2 from CK.lens l,List.length_take,List.length_drop] at this
              omega
            have fin:∀ (b:Base) (cap:Nat),ρ id = some b→Calls Try.prog 25 #[.slice (some ⟨b.blk,b.off + off,none⟩) s.len cap,.func (.func 26) #[] #[]] w fun e w'=>∃ c,e = .returned c∧∃ v H' ρ',ρ.le ρ'∧Rel ρ' v c∧HR N w0 ρ' H' w'∧K v H' = some r:=by
              intro b cap hbb
              have:=sort_sound (P:=Try.prog) (cap:=cap) Try.sortL Try.isAgg57 Try.sizeOf57 CK cmpK cmpK_swo cmpK_tot (g:=26) (by kernel_rfl) cmp26 hh hg hbb (l:=l) hl' hlen hb.1 hb.2
              exact this.mono fun e w' ⟨he,hw⟩=>⟨_,he,.tup [],_,ρ,ρ.le_refl,.tup [] [] .nil,hw,hk⟩
            cases r1 with
            | sn=>cases ha
            | sx id' off' len c b a h1 h2 h3 =>
              simp only [Option.some.injEq,Prod.mk.injEq] at ha
              obtain ⟨rfl,rfl⟩:=ha
              simp only at h0
              rw [h3 (by omega)]
              exact fin b c h1
            | so id' off' len sz cap b a h1 h2 h3 h4 h5 =>
              simp only [Option.some.injEq,Prod.mk.injEq] at ha
              obtain ⟨rfl,rfl⟩:=ha
              simp only at h0
              rw [h5 (by omega)]
              exact fin b cap h1
          · cases hk
        · cases hk
      · cases hk
  · cases hk
end Go.Proofs.Ytobebcfkddimkaa


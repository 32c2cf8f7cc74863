/- A region whose order is drawn: every order gives what the order of the text gives. -/
import Derived.Test.YteipplgcdbaokaaDoorAm19
namespace Go.Proofs.YteipplgcdbaokaaDoor.AM
open Go Go.RowKit

/-- how many numbers below 'len' meet p -/
def num (len : Nat) (p : Nat → Bool) : Nat := ((List.range len).filter p).length
theorem num_succ (len : Nat) (p : Nat → Bool) : num (len + 1) p = num len p + if p len then 1 else 0 := by
  unfold num
  rw [List.range_succ, List.filter_append, List.length_append]
  cases h : p len <;> simp [h]
theorem num_le {len : Nat} {p q : Nat → Bool} (h : ∀ j, j < len → p j = true → q j = true) : num len p ≤ num len q := by
  induction len with
  | zero => simp [num]
  | succ len ih =>
    rw [num_succ, num_succ]
    have := ih fun j hj => h j (by omega)
    have h2 := h len (by omega)
    cases hp : p len <;> cases hq : q len <;> simp_all <;> omega
theorem num_congr {len : Nat} {p q : Nat → Bool} (h : ∀ j, j < len → p j = q j) : num len p = num len q := by
  have h1 := num_le (p := p) (q := q) fun j hj hp => by rw [← h j hj]; exact hp
  have h2 := num_le (p := q) (q := p) fun j hj hp => by rw [h j hj]; exact hp
  omega
theorem num_set {len i : Nat} {p q : Nat → Bool} (hi : i < len) (hp : p i = false) (hq : q i = true) (h : ∀ j, j ≠ i → q j = p j) : num len q = num len p + 1 := by
  induction len with
  | zero => omega
  | succ len ih =>
    rw [num_succ, num_succ]
    by_cases hil : i = len
    · subst hil
      rw [num_congr (p := q) (q := p) fun j hj => h j (by omega), hp, hq]
      simp
    · rw [ih (by omega), h len (fun e => hil e.symm)]
      omega
theorem num_lt {len m : Nat} {p : Nat → Bool} (hm : m ≤ len) : num len (fun j => p j && decide (j < m)) = num m p := by
  induction len with
  | zero => obtain rfl : m = 0 := by omega
            simp [num]
  | succ len ih =>
    rw [num_succ]
    by_cases h : m = len + 1
    · subst h
      rw [num_succ, num_congr (q := p) fun j hj => by simp; intro _; omega]
      simp
    · rw [ih (by omega)]
      have : decide (len < m) = false := by simp; omega
      simp [this]
theorem num_all {len : Nat} {p : Nat → Bool} (h : num len p = len) : ∀ j, j < len → p j = true := by
  intro j hj
  rcases hp : p j with _ | _
  · exfalso
    have h1 : num len (fun k => if k = j then true else p k) = num len p + 1 := num_set hj hp (by simp) (fun k hk => by simp [hk])
    have h2 : num len (fun k => if k = j then true else p k) ≤ num len (fun _ => true) := num_le fun _ _ _ => rfl
    have h3 : num len (fun _ => true) = len := by unfold num; rw [List.filter_eq_self.2 (fun _ _ => rfl), List.length_range]
    omega
  · rfl

section
variable {P : Program} {E : FEnv} {n : Nat} {all : List Oper} {tbl : List Nat} {HS : Nat → Heap} {top : Nat} {N : Nat} {w0 : World}

theorem evalL_congr {val val' : Operand → Option V} : ∀ (l : List Operand), (∀ x ∈ l, val x = val' x) → evalL val l = evalL val' l := by
  intro l
  induction l with
  | nil => intro _; rfl
  | cons x l ih => intro h; simp only [evalL, h x (by simp), ih fun y hy => h y (by simp [hy])]
theorem evalP_congr {val val' : Operand → Option V} : ∀ (l : List (Nat × Operand)), (∀ x ∈ l.map (·.2), val x = val' x) → evalP val l = evalP val' l := by
  intro l
  induction l with
  | nil => intro _; rfl
  | cons p l ih =>
    obtain ⟨i, x⟩ := p
    intro h; simp only [evalP, h x (by simp), ih fun y hy => h y (by simp at hy ⊢; exact .inr hy)]
theorem intOpt_congr {val val' : Operand → Option V} (o : Option Operand) (h : ∀ x, o = some x → val x = val' x) : intOpt val o = intOpt val' o := by
  cases o with
  | none => rfl
  | some x => simp only [intOpt, h x rfl]

theorem evOp_congr {R : Type} {val val' : Operand → Option V} {H : Heap} {o : Op} {ty : TypeId} {K : V → Heap → Option R} (h : ∀ x ∈ o.operands.toList, val x = val' x) : evOp P E val H o ty K = evOp P E val' H o ty K := by
  cases o with
  | build t parts => simp only [evOp, evalP_congr parts.toList (val := val) (val' := val') fun x hx => h x (by simpa [Op.operands] using hx)]
  | buildSlice t len parts => simp only [evOp, evalP_congr parts.toList (val := val) (val' := val') fun x hx => h x (by simpa [Op.operands] using hx)]
  | makeFunc fn a b =>
    simp only [evOp, evalL_congr a.toList (val := val) (val' := val') fun x hx => h x (by simp [Op.operands]; exact .inl (by simpa using hx)), evalL_congr b.toList (val := val) (val' := val') fun x hx => h x (by simp [Op.operands]; exact .inr (by simpa using hx))]
  | makeMap t r =>
    cases r with
    | none => rfl
    | some x => simp only [evOp, h x (by simp [Op.operands])]
  | slice t x lo hi mx =>
    simp only [evOp, h x (by simp [Op.operands]), intOpt_congr lo (val := val) (val' := val') fun y hy => h y (by subst hy; simp [Op.operands]), intOpt_congr hi (val := val) (val' := val') fun y hy => h y (by subst hy; simp [Op.operands]),
      intOpt_congr mx (val := val) (val' := val') fun y hy => h y (by subst hy; simp [Op.operands])]
  | call c =>
    obtain ⟨callee, args, ts⟩ := c
    have ha := evalL_congr args.toList (val := val) (val' := val') fun x hx => h x (by simp [Op.operands, Call.operands]; exact .inr (by simpa using hx))
    cases callee with
    | builtin b => simp only [evOp, ha]
    | invoke r m => simp only [evOp, ha, h r (by simp [Op.operands, Call.operands])]
    | value f => simp only [evOp, ha, h f (by simp [Op.operands, Call.operands])]
  | move x => simp only [evOp, h x (by simp [Op.operands])]
  | assign x => simp only [evOp, h x (by simp [Op.operands])]
  | pick c a b => simp only [evOp, h c (by simp [Op.operands]), h a (by simp [Op.operands]), h b (by simp [Op.operands])]
  | box e x => simp only [evOp, h x (by simp [Op.operands])]
  | insert t m k x => simp only [evOp, h m (by simp [Op.operands]), h k (by simp [Op.operands]), h x (by simp [Op.operands])]
  | mapUpdate t m k x => simp only [evOp, h m (by simp [Op.operands]), h k (by simp [Op.operands]), h x (by simp [Op.operands])]
  | entryStore t m k x => simp only [evOp, h m (by simp [Op.operands]), h k (by simp [Op.operands]), h x (by simp [Op.operands])]
  | load t x => simp only [evOp, h x (by simp [Op.operands])]
  | store t m k => simp only [evOp, h m (by simp [Op.operands]), h k (by simp [Op.operands])]
  | nilCheck x => simp only [evOp, h x (by simp [Op.operands])]
  | binOp op t m k yt => simp only [evOp, h m (by simp [Op.operands]), h k (by simp [Op.operands])]
  | unOp op t x => simp only [evOp, h x (by simp [Op.operands])]
  | convert s d x => simp only [evOp, h x (by simp [Op.operands])]
  | makeInterface t x => simp only [evOp, h x (by simp [Op.operands])]
  | makeSlice t m k => simp only [evOp, h m (by simp [Op.operands]), h k (by simp [Op.operands])]
  | fieldAddr t x f => simp only [evOp, h x (by simp [Op.operands])]
  | field t x f => simp only [evOp, h x (by simp [Op.operands])]
  | indexAddr t m k => simp only [evOp, h m (by simp [Op.operands]), h k (by simp [Op.operands])]
  | index t m k => simp only [evOp, h m (by simp [Op.operands]), h k (by simp [Op.operands])]
  | lookup t m k ok => simp only [evOp, h m (by simp [Op.operands]), h k (by simp [Op.operands])]
  | mapEntry t m k => simp only [evOp, h m (by simp [Op.operands]), h k (by simp [Op.operands])]
  | extract x i => simp only [evOp, h x (by simp [Op.operands])]
  | range t x => simp only [evOp, h x (by simp [Op.operands])]
  | next x s => cases s <;> simp only [evOp, h x (by simp [Op.operands])]
  | entry x => simp only [evOp, h x (by simp [Op.operands])]
  | _ => rfl

theorem DT.data {i : Nat} {rest : List Oper} {F F' : Fr} (h : DT P E n all tbl HS top i rest F F') : ∃ (Fs fs : Nat → Fr) (run : Nat → Bool) (v : Nat → V), Fs i = F ∧ Fs (i + rest.length) = F' ∧
    ∀ (k : Nat) (o : Oper), rest[k]? = some o → Step1 P E n all tbl HS top (i + k) o (Fs (i + k)) (fs (i + k)) (run (i + k)) (v (i + k)) ∧
      ∀ t, fget (Fs (i + k + 1)) t = if o.dst = some t then (if run (i + k) then some (v (i + k)) else some (.tup [])) else fget (Fs (i + k)) t := by
  induction h with
  | nil i F => exact ⟨fun _ => F, fun _ => F, fun _ => true, fun _ => .b true, rfl, rfl, fun k o hk => by simp at hk⟩
  | cons i o rest F fr F' run v hs _ ih =>
    obtain ⟨Fs, fs, runs, vs, h1, h2, h3⟩ := ih
    refine ⟨fun k => if k = i then F else Fs k, fun k => if k = i then fr else fs k, fun k => if k = i then run else runs k, fun k => if k = i then v else vs k, by simp, ?_, ?_⟩
    · have e1 : i + (o :: rest).length = i + 1 + rest.length := by simp only [List.length_cons]; omega
      rw [e1]
      simp only [show ¬ (i + 1 + rest.length = i) by omega, if_false]
      exact h2
    · intro k o' hk
      cases k with
      | zero =>
        obtain rfl : o = o' := by simpa using hk
        simp only [Nat.add_zero, if_true]
        refine ⟨hs, fun t => ?_⟩
        rw [if_neg (by omega), h1]
        cases run with
        | true =>
          simp only [if_true]
          cases hd : o.dst with
          | none => simp [fput, hs.same]
          | some d =>
            simp only [fput, fget_fset]
            by_cases e : t = d
            · subst e; simp
            · rw [if_neg e, if_neg (fun h => e (Option.some.inj h).symm)]; exact hs.same t
        | false =>
          simp only [Bool.false_eq_true, if_false]
          cases hd : o.dst with
          | none => simp [fskip, hs.same]
          | some d =>
            simp only [fskip, fget_fset]
            by_cases e : t = d
            · subst e; simp
            · rw [if_neg e, if_neg (fun h => e (Option.some.inj h).symm)]; exact hs.same t
      | succ k =>
        have := h3 k o' (by simpa using hk)
        rw [show i + 1 + k = i + (k + 1) by omega] at this
        simp only [show ¬ (i + (k + 1) = i) by omega, show ¬ (i + (k + 1) + 1 = i) by omega, if_false]
        exact this

/-- slot t, behind those of the first k operations that S holds -/
def G (all : List Oper) (run : Nat → Bool) (v : Nat → V) (fr0 : Fr) (S : Nat → Bool) : Nat → Nat → Option V
  | 0, t => fget fr0 t
  | k + 1, t => if S k = true ∧ (all[k]?).bind (·.dst) = some t then (if run k then some (v k) else some (.tup [])) else G all run v fr0 S k t

theorem G_same {run : Nat → Bool} {v : Nat → V} {fr0 : Fr} {S S' : Nat → Bool} {t : Nat} : ∀ (k : Nat), (∀ j, j < k → (all[j]?).bind (·.dst) = some t → S j = S' j) → G all run v fr0 S k t = G all run v fr0 S' k t := by
  intro k
  induction k with
  | zero => intro _; rfl
  | succ k ih =>
    intro h
    simp only [G]
    rw [ih fun j hj => h j (by omega)]
    by_cases hd : (all[k]?).bind (·.dst) = some t
    · rw [h k (by omega) hd]
    · simp [hd]
theorem G_later {run : Nat → Bool} {v : Nat → V} {fr0 : Fr} {S : Nat → Bool} {t : Nat} (i : Nat) : ∀ (m : Nat), (∀ j, i ≤ j → j < i + m → (all[j]?).bind (·.dst) = some t → S j = false) → G all run v fr0 S (i + m) t = G all run v fr0 S i t := by
  intro m
  induction m with
  | zero => intro _; rfl
  | succ m ih =>
    intro h
    rw [show i + (m + 1) = (i + m) + 1 by omega]
    simp only [G]
    rw [ih fun j hj hjm => h j hj (by omega)]
    by_cases hd : (all[i + m]?).bind (·.dst) = some t
    · rw [h (i + m) (by omega) (by omega) hd]; simp
    · simp [hd]

theorem tbl_spec (h : tblOk all tbl = true) {j : Nat} {o : Oper} (ho : all[j]? = some o) : (∀ e ∈ anyEdges o, e < j) ∧ ∀ i, i < all.length → hasBit tbl j i = true → ∃ e ∈ anyEdges o, e = i ∨ hasBit tbl e i = true := by
  have hj : j < all.length := (List.getElem?_eq_some_iff.1 ho).1
  unfold tblOk at h
  rw [List.all_eq_true] at h
  have := h j (by simpa using hj)
  rw [ho] at this
  simp only [Bool.and_eq_true, List.all_eq_true, decide_eq_true_eq] at this
  refine ⟨this.1, fun i hi hb => ?_⟩
  have h2 := this.2 i (by simpa using hi)
  simp only [hb, Bool.not_true, Bool.false_or, List.any_eq_true, Bool.or_eq_true, decide_eq_true_eq] at h2
  exact h2
theorem stat_spec (h : statOk P all tbl = true) : tblOk all tbl = true ∧ ∀ i j x y, i < j → all[i]? = some x → all[j]? = some y → hasBit tbl j i = true ∨ (clash all x y = false ∧ (effO P x.op && effO P y.op) = false) := by
  unfold statOk at h
  simp only [Bool.and_eq_true] at h
  refine ⟨h.1, fun i j x y hij hx hy => ?_⟩
  have hj : j < all.length := (List.getElem?_eq_some_iff.1 hy).1
  have h2 := List.all_eq_true.1 h.2 j (by simpa using hj)
  have h3 := List.all_eq_true.1 h2 i (by simpa using hij)
  rw [hx, hy] at h3
  simp only [Bool.or_eq_true, Bool.not_eq_true', Bool.or_eq_false_iff] at h3
  exact h3

/-- what has been listed is closed under what it waits for -/
def Closed (all : List Oper) (listed : Array Bool) : Prop := ∀ j o, all[j]? = some o → listed.getD j false = true → ∀ e ∈ anyEdges o, listed.getD e false = true
theorem Closed.bit {listed : Array Bool} (ht : tblOk all tbl = true) (h : Closed all listed) : ∀ (j i : Nat) (o : Oper), all[j]? = some o → i < all.length → (∀ e ∈ anyEdges o, listed.getD e false = true) → hasBit tbl j i = true → listed.getD i false = true := by
  intro j
  induction j using Nat.strongRecOn with
  | _ j ih =>
    intro i o ho hi hd hb
    obtain ⟨h1, h2⟩ := tbl_spec ht ho
    obtain ⟨e, he, h3⟩ := h2 i hi hb
    rcases h3 with rfl | h3
    · exact hd e he
    · have hej := h1 e he
      have hel : e < all.length := by have := (List.getElem?_eq_some_iff.1 ho).1; omega
      exact ih e hej i all[e] (List.getElem?_eq_getElem hel) hi (h e all[e] (List.getElem?_eq_getElem hel) (hd e he)) h3

theorem mem_ready' {listed : Array Bool} {i : Nat} (h : i ∈ Region.ready .any all.toArray listed) : ∃ o, all[i]? = some o ∧ listed.getD i true = false ∧ ∀ e ∈ anyEdges o, listed.getD e false = true := by
  unfold Region.ready at h
  rw [List.mem_filter] at h
  obtain ⟨h1, h2⟩ := h
  have hi : i < all.length := by simpa using h1
  simp only [Bool.and_eq_true, Bool.not_eq_true'] at h2
  obtain ⟨h3, h4⟩ := h2
  have ho : all[i]? = some all[i] := List.getElem?_eq_getElem hi
  have ho' : all.toArray[i]? = some all[i] := by simp
  rw [ho'] at h4
  refine ⟨all[i], ho, h3, fun e he => ?_⟩
  simp only [anyEdges, List.mem_map, List.mem_filter] at he
  obtain ⟨ed, ⟨hed, hb⟩, rfl⟩ := he
  simp only [Option.map_some, Option.getD_some] at h4
  have := (Array.all_eq_true_iff_forall_mem.1 h4) ed (by simpa using hed)
  simpa [hb] using this
theorem ready_of {listed : Array Bool} {i : Nat} {o : Oper} (ho : all[i]? = some o) (h1 : listed.getD i true = false) (h2 : ∀ e ∈ anyEdges o, listed.getD e false = true) : i ∈ Region.ready .any all.toArray listed := by
  unfold Region.ready
  rw [List.mem_filter]
  have hi : i < all.length := (List.getElem?_eq_some_iff.1 ho).1
  refine ⟨by simpa using hi, ?_⟩
  have ho' : all.toArray[i]? = some o := by simpa using ho
  rw [ho']
  simp only [h1, Bool.not_false, Bool.true_and, Option.map_some, Option.getD_some]
  rw [Array.all_eq_true_iff_forall_mem]
  intro ed hed
  by_cases hb : Region.binds .any ed = true
  · have := h2 ed.on (by simp only [anyEdges, List.mem_map, List.mem_filter]; exact ⟨ed, ⟨by simpa using hed, hb⟩, rfl⟩)
    simp [this]
  · simp at hb; simp [hb]

theorem clash_dst {x y : Oper} {d : Nat} (h : clash all x y = false) (hd : x.dst = some d) : d ∉ namesOf all y ∧ y.dst ≠ some d := by
  unfold clash at h
  rw [hd] at h
  simp only [Bool.or_eq_false_iff] at h
  obtain ⟨⟨h1, h2⟩, _⟩ := h
  refine ⟨fun hm => ?_, fun e => ?_⟩
  · rw [List.contains_iff_mem.2 hm] at h1; cases h1
  · rw [e] at h2; simp at h2
theorem clash_dst' {x y : Oper} {d : Nat} (h : clash all x y = false) (hd : y.dst = some d) : d ∉ namesOf all x ∧ x.dst ≠ some d := by
  unfold clash at h
  rw [hd] at h
  simp only [Bool.or_eq_false_iff] at h
  obtain ⟨h1, h3⟩ := h
  refine ⟨fun hm => ?_, fun e => ?_⟩
  · rw [List.contains_iff_mem.2 hm] at h3; cases h3
  · rw [e] at h1; simp at h1

/-- every order -/
theorem draw_sound (hE : EnvOK P E) {fr0 frF : Fr} (hD : DT P E n all tbl HS top 0 all fr0 frF) (htop : top = cnt P all all.length) (hst : statOk P all tbl = true) {ρ0 : Env} {Q : Exit → Act → World → Prop}
    (hQ : ∀ ρ' a' w', ρ0.le ρ' → SR N w0 n ρ' frF (HS top) a' w' → Q .normal a' w') {a0 : Act} {w1 : World} (h0 : SR N w0 n ρ0 fr0 (HS 0) a0 w1) :
    wpAny P .any all.toArray Q all.length (Array.replicate all.length false) a0 w1 := by
  obtain ⟨ht, hs⟩ := stat_spec hst
  obtain ⟨Fs, fs, run, v, e1, e2, hstep⟩ := hD.data
  simp only [Nat.zero_add] at e1 e2 hstep
  -- the text's frames
  have hF : ∀ k, k ≤ all.length → ∀ t, fget (Fs k) t = G all run v fr0 (fun _ => true) k t := by
    intro k
    induction k with
    | zero => intro _ t; rw [e1]; rfl
    | succ k ih =>
      intro hk t
      have hlt : k < all.length := by omega
      have := (hstep k all[k] (List.getElem?_eq_getElem hlt)).2 t
      rw [this]
      simp only [G, List.getElem?_eq_getElem hlt, Option.bind_some, true_and]
      rw [ih (by omega) t]
  have main : ∀ (fuel : Nat) (listed : Array Bool) (a : Act) (w : World) (ρ : Env), listed.size = all.length → Closed all listed → fuel + num all.length (fun j => listed.getD j false) = all.length → a.tmps.size = n → a.defers = [] → ρ0.le ρ →
      HR N w0 ρ (HS (num all.length fun j => effAt P all j && listed.getD j false)) w → (∀ t u, G all run v fr0 (fun j => listed.getD j false) all.length t = some u → ∃ c, a.tmps[t]? = some c ∧ Rel ρ u c) →
      wpAny P .any all.toArray Q fuel listed a w := by
    intro fuel
    induction fuel with
    | zero =>
      intro listed a w ρ hsz hcl hnum hn hdf hle hh hg
      have hall := num_all (len := all.length) (p := fun j => listed.getD j false) (by omega)
      have hready : Region.ready .any all.toArray listed = [] := by
        rw [List.eq_nil_iff_forall_not_mem]
        intro i hi
        obtain ⟨o, ho, h1, _⟩ := mem_ready' hi
        have hil := (List.getElem?_eq_some_iff.1 ho).1
        have := hall i hil
        simp only [Array.getD_eq_getD_getElem?] at this h1
        have hlt : i < listed.size := by omega
        simp [hlt] at this h1
        rw [this] at h1; cases h1
      have fin : Q .normal a w := by
        refine hQ ρ a w hle ⟨fun t u hu => ?_, hn, hdf, ?_⟩
        · refine hg t u ?_
          rw [G_same (S' := fun _ => true) all.length (fun j hj _ => hall j hj), ← hF all.length (Nat.le_refl _), e2]; exact hu
        · have : (num all.length fun j => effAt P all j && listed.getD j false) = top := by
            rw [htop]; unfold cnt
            exact num_congr (q := effAt P all) fun j hj => by rw [hall j hj]; simp
          rw [← this]; exact hh
      exact ⟨hready, fin⟩
    | succ fuel ih =>
      intro listed a w ρ hsz hcl hnum hn hdf hle hh hg
      refine ⟨fun hready => ?_, fun i hi => ?_⟩
      · -- nothing is ready: all is listed: but something is left
        exfalso
        have hall : ∀ j, j < all.length → listed.getD j false = true := by
          intro j
          induction j using Nat.strongRecOn with
          | _ j ihj =>
            intro hj
            rcases hlj : listed.getD j false with _ | _
            · exfalso
              have hor : all[j]? = some all[j] := List.getElem?_eq_getElem hj
              have hlt : j < listed.size := by omega
              have h1 : listed.getD j true = false := by simp [Array.getD_eq_getD_getElem?, hlt] at hlj ⊢; exact hlj
              have := ready_of hor h1 fun e he => ihj e ((tbl_spec ht hor).1 e he) (by have := (tbl_spec ht hor).1 e he; omega)
              rw [hready] at this; cases this
            · rfl
        have : num all.length (fun j => listed.getD j false) = num all.length (fun _ => true) := num_congr fun j hj => hall j hj
        have h3 : num all.length (fun _ => true) = all.length := by unfold num; rw [List.filter_eq_self.2 (fun _ _ => rfl), List.length_range]
        omega
      · obtain ⟨o, ho, hnl, hdeps⟩ := mem_ready' hi
        have hil := (List.getElem?_eq_some_iff.1 ho).1
        have hils : i < listed.size := by omega
        have hnl' : listed.getD i false = false := by simp [Array.getD_eq_getD_getElem?, hils] at hnl ⊢; exact hnl
        obtain ⟨st, hnext⟩ := hstep i o ho
        -- what stands behind and ahead
        have back : ∀ j, j < all.length → hasBit tbl i j = true → listed.getD j false = true := fun j hj hb => hcl.bit ht i j o ho hj hdeps hb
        have ahead : ∀ j, j < all.length → hasBit tbl j i = true → listed.getD j false = false := by
          intro j hj hb
          rcases hlj : listed.getD j false with _ | _
          · rfl
          · have := hcl.bit ht j i all[j] (List.getElem?_eq_getElem hj) hil (hcl j all[j] (List.getElem?_eq_getElem hj) hlj) hb
            rw [this] at hnl'; cases hnl'
        -- slots that the operation names read as in the text
        have slot : ∀ t, t ∈ namesOf all o → G all run v fr0 (fun j => listed.getD j false) all.length t = fget (Fs i) t := by
          intro t htn
          rw [hF i (by omega), show all.length = i + (all.length - i) by omega, G_later i (all.length - i), G_same (S' := fun _ => true) i]
          · intro j hj hd
            have hjl : j < all.length := by omega
            have hdj : all[j].dst = some t := by simpa [List.getElem?_eq_getElem hjl] using hd
            rcases hs j i all[j] o hj (List.getElem?_eq_getElem hjl) ho with hb | ⟨hc, _⟩
            · exact back j hjl hb
            · exact absurd htn (clash_dst hc hdj).1
          · intro j hij hj hd
            by_cases hji : j = i
            · subst hji; exact hnl'
            have hjl : j < all.length := by omega
            have hdj : all[j].dst = some t := by simpa [List.getElem?_eq_getElem hjl] using hd
            rcases hs i j o all[j] (by omega) ho (List.getElem?_eq_getElem hjl) with hb | ⟨hc, _⟩
            · exact ahead j hjl hb
            · exact absurd htn (clash_dst' hc hdj).1
        -- the slot that it writes is written by none that is listed behind it
        have later : ∀ d, o.dst = some d → ∀ j, i < j → j < all.length → (all[j]?).bind (·.dst) = some d → listed.getD j false = false := by
          intro d hd j hij hjl hdj
          have hdj' : all[j].dst = some d := by simpa [List.getElem?_eq_getElem hjl] using hdj
          rcases hs i j o all[j] hij ho (List.getElem?_eq_getElem hjl) with hb | ⟨hc, _⟩
          · exact ahead j hjl hb
          · exact absurd hdj' (clash_dst hc hd).2
        have hset : ∀ j, (listed.setIfInBounds i true).getD j false = if j = i then true else listed.getD j false := by
          intro j
          simp only [Array.getD_eq_getD_getElem?, Array.getElem?_setIfInBounds]
          by_cases e : j = i
          · subst e; simp [hils]
          · rw [if_neg (fun h => e h.symm), if_neg e]
        have hcl' : Closed all (listed.setIfInBounds i true) := by
          intro j oj hoj hlj e he
          rw [hset] at hlj ⊢
          split
          · rfl
          · split at hlj
            · rename_i _ hji; subst hji
              rw [ho] at hoj; cases hoj
              exact hdeps e he
            · exact hcl j oj hoj hlj e he
        have hnum' : fuel + num all.length (fun j => (listed.setIfInBounds i true).getD j false) = all.length := by
          rw [num_set (p := fun j => listed.getD j false) hil hnl' (by rw [hset]; simp) (fun j hj => by rw [hset, if_neg hj])]
          omega
        -- the heap's place
        have hplace : effO P o.op = true → (num all.length fun j => effAt P all j && listed.getD j false) = cnt P all i := by
          intro he
          have heff : effAt P all i = true := by simp [effAt, ho, he]
          have h1 : cnt P all i = num i (effAt P all) := rfl
          rw [h1, ← num_lt (len := all.length) (m := i) (by omega)]
          refine num_congr fun j hj => ?_
          rcases hej : effAt P all j with _ | _
          · rfl
          · simp only [Bool.true_and]
            have hoj : all[j]? = some all[j] := List.getElem?_eq_getElem hj
            have hej' : effO P all[j].op = true := by simpa [effAt, hoj] using hej
            rcases Nat.lt_trichotomy j i with h | h | h
            · simp only [h, decide_true]
              rcases hs j i all[j] o h hoj ho with hb | ⟨_, hc⟩
              · exact back j hj hb
              · rw [hej', he] at hc; cases hc
            · subst h; rw [hnl']; simp
            · have : decide (j < i) = false := by simp; omega
              rw [this]
              rcases hs i j o all[j] h ho hoj with hb | ⟨_, hc⟩
              · exact ahead j hj hb
              · rw [hej', he] at hc; cases hc
        have hplace1 : effO P o.op = true → (num all.length fun j => effAt P all j && (listed.setIfInBounds i true).getD j false) = cnt P all i + 1 := by
          intro he
          rw [← hplace he]
          exact num_set hil (by rw [hnl']; simp) (by rw [hset]; simp [effAt, ho, he]) (fun j hj => by rw [hset, if_neg hj])
        have hplace0 : effO P o.op = false → (num all.length fun j => effAt P all j && (listed.setIfInBounds i true).getD j false) = (num all.length fun j => effAt P all j && listed.getD j false) := by
          intro he
          refine num_congr fun j hj => ?_
          rw [hset]
          by_cases e : j = i
          · subst e; simp [effAt, ho, he]
          · rw [if_neg e]
        -- what the frame holds behind it
        have frame : ∀ (ρ' : Env) (a' : Act), ρ.le ρ' → (∀ t, o.dst ≠ some t → a'.tmps[t]? = a.tmps[t]?) → (∀ d, o.dst = some d → run i = true → ∃ c, a'.tmps[d]? = some c ∧ Rel ρ' (v i) c) → (∀ d, o.dst = some d → run i = false → a'.tmps[d]? = some undef) →
            ∀ t u, G all run v fr0 (fun j => (listed.setIfInBounds i true).getD j false) all.length t = some u → ∃ c, a'.tmps[t]? = some c ∧ Rel ρ' u c := by
          intro ρ' a' hl ho1 hd1 hd0 t u hu
          by_cases hdt : o.dst = some t
          · rw [show all.length = (i + 1) + (all.length - (i + 1)) by omega, G_later (i + 1) (all.length - (i + 1)) (fun j hj hjl hdj => by rw [hset, if_neg (by omega)]; exact later t hdt j (by omega) (by omega) hdj)] at hu
            simp only [G] at hu
            rw [if_pos ⟨by rw [hset]; simp, by simp [ho, hdt]⟩] at hu
            split at hu
            · rename_i hr
              obtain rfl : v i = u := by simpa using hu
              exact hd1 t hdt hr
            · rename_i hr
              obtain rfl : V.tup [] = u := by simpa using hu
              exact ⟨undef, hd0 t hdt (by simpa using hr), .tup _ _ .nil⟩
          · rw [G_same (S' := fun j => listed.getD j false) all.length (fun j hj hdj => by
              rw [hset]
              by_cases e : j = i
              · subst e; exact absurd (by simpa [ho] using hdj) hdt
              · rw [if_neg e])] at hu
            obtain ⟨c, hc, hr⟩ := hg t u hu
            exact ⟨c, by rw [ho1 t hdt]; exact hc, hr.mono hl⟩
        -- is it wanted?
        have hwanted : Region.wanted o (yielded all.toArray a.tmps) = run i := by
          rcases st.guard with ⟨g1, g2⟩ | ⟨j, want, d, x, g1, g2, g3, g4⟩ | ⟨j, want, d, g1, g2, g3, g4⟩
          · rw [g2]; exact wanted_none g1
          · have hdn : d ∈ namesOf all o := by simp [namesOf, g1, g2]
            have := slot d hdn
            rw [g3] at this
            obtain ⟨c, hc, hr⟩ := hg d _ this
            cases hr
            have hy := yielded_of (ops := all.toArray) (j := j) (by simpa using g2) hc
            simp [Region.wanted, g1, hy, g4]
          · have hdn : d ∈ namesOf all o := by simp [namesOf, g1, g2]
            have := slot d hdn
            rw [g3] at this
            obtain ⟨c, hc, hr⟩ := hg d _ this
            cases hr with
            | tup _ xs hrs =>
            cases hrs
            have hy : yielded all.toArray a.tmps j = none := yielded_none (by simpa using g2) hc
            simp [Region.wanted, g1, hy, g4]
        have ho' : all.toArray[i]? = some o := by simpa using ho
        unfold wpOp
        rw [ho']
        simp only [hwanted]
        cases hrun : run i with
        | false =>
          simp only [Bool.false_eq_true, if_false]
          have hput : ∀ t, o.dst ≠ some t → (a.put o.dst undef).tmps[t]? = a.tmps[t]? := by
            intro t htd
            cases hd : o.dst with
            | none => rfl
            | some d =>
              simp only [Act.put, Array.getElem?_setIfInBounds]
              rw [if_neg (fun e => htd (by rw [hd, e]))]
          refine ih _ _ w ρ (by simpa using hsz) hcl' hnum' (by cases o.dst <;> simpa [Act.put] using hn) (by cases o.dst <;> simpa [Act.put] using hdf) hle ?_ (frame ρ _ ρ.le_refl hput (fun d _ hr => by rw [hrun] at hr; cases hr) (fun d hd _ => by
            have hdn : d < n := by have := st.dst; rw [hd] at this; simpa [dstOk] using this
            rw [hd]; simp [Act.put, hn, hdn]))
          cases he : effO P o.op with
          | true =>
            rw [hplace1 he, st.skip hrun he, ← hplace he]; exact hh
          | false => rw [hplace0 he]; exact hh
        | true =>
          simp only [if_true]
          -- the operation, at the heap that stands now
          have hev : ∃ H', evOp P E (evalO (fs i)) (HS (num all.length fun j => effAt P all j && listed.getD j false)) o.op o.type ret2 = some (v i, H') ∧ H' = HS (num all.length fun j => effAt P all j && (listed.setIfInBounds i true).getD j false) := by
            cases he : effO P o.op with
            | true => exact ⟨_, by rw [hplace he]; exact st.eff hrun he, by rw [hplace1 he]⟩
            | false =>
              refine ⟨_, st.read hrun he _ ?_ ?_ ?_, by rw [hplace0 he]⟩
              · refine num_le (p := fun j => effAt P all j && hasBit tbl i j) fun j hj hp => ?_
                simp only [Bool.and_eq_true] at hp ⊢
                exact ⟨hp.1, back j hj hp.2⟩
              · refine num_le (q := fun j => effAt P all j && !hasBit tbl j i) fun j hj hp => ?_
                simp only [Bool.and_eq_true, Bool.not_eq_true'] at hp ⊢
                refine ⟨hp.1, ?_⟩
                rcases hb : hasBit tbl j i with _ | _
                · rfl
                · have := ahead j hj hb; rw [this] at hp; cases hp.2
              · rw [htop]
                exact num_le (q := effAt P all) fun j hj hp => by simp only [Bool.and_eq_true] at hp; exact hp.1
          obtain ⟨H', hev, hH'⟩ := hev
          have hops : ∀ x ∈ o.op.operands.toList, ∀ u, evalO (fs i) x = some u → Rel ρ u (a.eval x) := by
            intro x hx u hu
            cases x with
            | tmp t =>
              have htn : t ∈ namesOf all o := by
                simp only [namesOf, tmpsOf, List.mem_append, List.mem_filterMap]
                exact .inl ⟨.tmp t, hx, rfl⟩
              have h1 : fget (fs i) t = some u := hu
              rw [st.same t, ← slot t htn] at h1
              obtain ⟨c, hc, hr⟩ := hg t u h1
              simpa [Act.eval, Array.getD_eq_getD_getElem?, hc] using hr
            | const c => exact ofValue_sound hu
            | global g => cases hu
            | func f =>
              simp [evalO] at hu; subst hu
              exact .fn (.func f) [] [] [] [] .nil .nil
          have hcon : evOp P E (fun x => open Classical in if x ∈ o.op.operands.toList then evalO (fs i) x else none) (HS (num all.length fun j => effAt P all j && listed.getD j false)) o.op o.type ret2 = some (v i, H') := by
            rw [← hev]; exact evOp_congr fun x hx => by simp [hx]
          have hdoes := evOp_sound hE hh (e := a.eval) (val := fun x => open Classical in if x ∈ o.op.operands.toList then evalO (fs i) x else none) (fun x u hu => by
            by_cases hx : x ∈ o.op.operands.toList
            · simp only [hx, if_true] at hu; exact hops x hx u hu
            · simp only [hx, if_false] at hu; cases hu) o hcon
          refine .inl (hdoes.wp fun c w' hp => ?_)
          obtain ⟨u, H2, ρ', h1, h2, h3, h4⟩ := hp
          obtain ⟨rfl, rfl⟩ : u = v i ∧ H2 = H' := by simpa [ret2] using h4
          subst hH'
          have hput : ∀ t, o.dst ≠ some t → (a.put o.dst c).tmps[t]? = a.tmps[t]? := by
            intro t htd
            cases hd : o.dst with
            | none => rfl
            | some d =>
              simp only [Act.put, Array.getElem?_setIfInBounds]
              rw [if_neg (fun e => htd (by rw [hd, e]))]
          refine ih _ _ w' ρ' (by simpa using hsz) hcl' hnum' (by cases o.dst <;> simpa [Act.put] using hn) (by cases o.dst <;> simpa [Act.put] using hdf) (hle.trans h1) h3 (frame ρ' _ h1 hput (fun d hd _ => ⟨c, ?_, h2⟩) (fun d _ hr => by rw [hrun] at hr; cases hr))
          have hdn : d < n := by have := st.dst; rw [hd] at this; simpa [dstOk] using this
          rw [hd]
          simp [Act.put, hn, hdn]
  refine main all.length _ a0 w1 ρ0 (by simp) ?_ ?_ h0.size h0.defers ρ0.le_refl ?_ ?_
  · intro j o ho hl
    simp only [Array.getD_eq_getD_getElem?, Array.getElem?_replicate] at hl
    split at hl <;> simp at hl
  · have : num all.length (fun j => (Array.replicate all.length false).getD j false) = num all.length (fun _ => false) := num_congr fun j hj => by simp [Array.getD_eq_getD_getElem?, hj]
    rw [this]
    have h0' : num all.length (fun _ => false) = 0 := by unfold num; simp
    omega
  · have : (num all.length fun j => effAt P all j && (Array.replicate all.length false).getD j false) = num all.length (fun _ => false) := num_congr fun j hj => by simp [Array.getD_eq_getD_getElem?, hj]
    have h0' : num all.length (fun _ => false) = 0 := by unfold num; simp
    rw [this, h0']; exact h0.hr
  · intro t u hu
    rw [show all.length = 0 + all.length by omega, G_later 0 all.length (fun j _ hj _ => by simp [Array.getD_eq_getD_getElem?, show j < all.length by omega])] at hu
    exact h0.fr t u hu

end
end Go.Proofs.YteipplgcdbaokaaDoor.AM

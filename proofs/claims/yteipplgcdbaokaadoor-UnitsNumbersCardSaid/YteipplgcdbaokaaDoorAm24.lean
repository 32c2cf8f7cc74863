/- What the arguments of a law stand for. -/
import Derived.Test.YteipplgcdbaokaaDoorAm23
import Derived.ProofKit
import Derived.OpenShut
import Derived.SizedLaws
import Derived.ChangeArms
namespace Go.Proofs.YteipplgcdbaokaaDoor.AM
open Go Go.RowKit

/-- the make of a cell -/
inductive Dt where
  | b
  | i (k : IntKind)
  | s
  | sl (ks : List Dt)

def fieldsK (P : Program) (g : TypeId → Option (List Dt)) : List Field → Nat → Option (List Dt)
  | [], _ => some []
  | f :: fs, off => if f.offset = off then (g f.type).bind fun ks => if ks.length = P.cellsOf f.type then (fieldsK P g fs (off + ks.length)).bind fun r => some (ks ++ r) else none else none

/-- the cells of a type -/
def dtsOf (P : Program) : Nat → TypeId → Option (List Dt)
  | 0, _ => none
  | f + 1, t => match P.underlying t with
    | some .bool => some [.b]
    | some (.int k) => some [.i k]
    | some .string => some [.s]
    | some (.slice e) => (dtsOf P f e).bind fun ks => if ks.length = P.cellsOf e ∧ ks.length ≠ 0 then some [.sl ks] else none
    | some (.struct fs) => (fieldsK P (dtsOf P f) fs.toList 0).bind fun ks => if ks.length = P.cellsOf t then some ks else none
    | some (.array n e) => (dtsOf P f e).bind fun ks => if ks.length = P.cellsOf e ∧ n * ks.length = P.cellsOf t then some (List.replicate n ks).flatten else none
    | _ => none

/-- a cell of that make -/
inductive Fit (H : Heap) : Dt → V → Prop
  | b (x : Bool) : Fit H .b (.b x)
  | i (k : IntKind) (n : Int) : (Lit.int k n).wf = true → Fit H (.i k) (.i k n)
  | s (x : ByteArray) : x.size ≤ reachBytes → Fit H .s (.s x)
  | sn (ks : List Dt) : Fit H (.sl ks) (.sl ⟨none, 0, .ex 0⟩)
  | sl (ks : List Dt) (id len cap : Nat) (vs : List V) (e : TypeId) : len ≤ cap → cap ≤ maxLen → ks.length ≠ 0 → vs.length = cap * ks.length → (cap ≠ 0 → H.get id = some (.cells vs e true)) →
      (∀ (j : Nat) (v : V) (d : Dt), vs[j]? = some v → ks[j % ks.length]? = some d → Fit H d v) → Fit H (.sl ks) (.sl ⟨some (id, 0), len, .ex cap⟩)
def Fits (H : Heap) (ks : List Dt) (vs : List V) : Prop := vs.length = ks.length ∧ ∀ (j : Nat) (v : V) (d : Dt), vs[j]? = some v → ks[j]? = some d → Fit H d v

/-- H' knows what H knows -/
def Heap.sub (H H' : Heap) : Prop := ∀ id o, H.get id = some o → H'.get id = some o
theorem Fit.mono {H H' : Heap} (hs : H.sub H') {d : Dt} {v : V} (h : Fit H d v) : Fit H' d v := by
  induction h with
  | b x => exact .b x
  | i k n h => exact .i k n h
  | s x h => exact .s x h
  | sn ks => exact .sn ks
  | sl ks id len cap vs e h1 h2 h3 h4 h5 _ ih => exact .sl ks id len cap vs e h1 h2 h3 h4 (fun h => hs _ _ (h5 h)) ih
theorem Fits.mono {H H' : Heap} (hs : H.sub H') {ks : List Dt} {vs : List V} (h : Fits H ks vs) : Fits H' ks vs := ⟨h.1, fun j v d h1 h2 => (h.2 j v d h1 h2).mono hs⟩
theorem Fits.append {H : Heap} {ks ks' : List Dt} {vs vs' : List V} (h : Fits H ks vs) (h' : Fits H ks' vs') : Fits H (ks ++ ks') (vs ++ vs') := by
  refine ⟨by simp [h.1, h'.1], fun j v d h1 h2 => ?_⟩
  by_cases hj : j < ks.length
  · rw [List.getElem?_append_left (by rw [h.1]; exact hj)] at h1
    rw [List.getElem?_append_left hj] at h2
    exact h.2 j v d h1 h2
  · rw [List.getElem?_append_right (by rw [h.1]; omega)] at h1
    rw [List.getElem?_append_right (by omega)] at h2
    rw [h.1] at h1
    exact h'.2 _ v d h1 h2

/-- cells that can be opened -/
def Opn (W : World) (ks : List Dt) (cs : List Value) : Prop := ∀ (ρ : Env) (H : Heap), HR W.heap.size W ρ H W →
  ∃ (H' : Heap) (ρ' : Env) (vs : List V), H.sub H' ∧ ρ.le ρ' ∧ HR W.heap.size W ρ' H' W ∧ Rels ρ' vs cs ∧ Fits H' ks vs

theorem Opn.nil (W : World) : Opn W [] [] := fun ρ H h => ⟨H, ρ, [], fun _ _ h => h, ρ.le_refl, h, .nil, rfl, fun j v d h => by simp at h⟩
theorem Opn.append {W : World} {ks ks' : List Dt} {cs cs' : List Value} (h : Opn W ks cs) (h' : Opn W ks' cs') : Opn W (ks ++ ks') (cs ++ cs') := by
  intro ρ H hh
  obtain ⟨H1, ρ1, vs1, s1, l1, r1, e1, f1⟩ := h ρ H hh
  obtain ⟨H2, ρ2, vs2, s2, l2, r2, e2, f2⟩ := h' ρ1 H1 r1
  exact ⟨H2, ρ2, vs1 ++ vs2, fun id o h => s2 _ _ (s1 _ _ h), l1.trans l2, r2, (e1.mono l2).append e2, (f1.mono s2).append f2⟩
theorem Opn.one {W : World} {d : Dt} {x : Value} {v : V} (hr : ∀ ρ, Rel ρ v x) (hf : ∀ H, Fit H d v) : Opn W [d] [x] := fun ρ H h =>
  ⟨H, ρ, [v], fun _ _ h => h, ρ.le_refl, h, .cons _ _ _ _ (hr ρ) .nil, rfl, fun j u e h1 h2 => by
    cases j with
    | zero => simp at h1 h2; subst h1; subst h2; exact hf H
    | succ j => simp at h1⟩
theorem Opn.rep {W : World} {ks : List Dt} {all : List Value} (n : Nat) (h : ∀ i, i < n → Opn W ks ((all.drop (i * ks.length)).take ks.length)) : Opn W (List.replicate n ks).flatten (all.take (n * ks.length)) := by
  induction n with
  | zero => simpa using Opn.nil W
  | succ n ih =>
    have e1 : (List.replicate (n + 1) ks).flatten = (List.replicate n ks).flatten ++ ks := by simp [List.replicate_succ']
    have e2 : all.take ((n + 1) * ks.length) = all.take (n * ks.length) ++ (all.drop (n * ks.length)).take ks.length := by rw [Nat.succ_mul, List.take_add]
    rw [e1, e2]
    exact (ih fun i hi => h i (by omega)).append (h n (by omega))

/-- a block of before, shown read-only -/
theorem HR.view {N : Nat} {w0 w : World} {ρ : Env} {H : Heap} (h : HR N w0 ρ H w) (vs : List V) (e : TypeId) (b : Base) (hb : b.blk < N) (ho : ORel N ρ w b (.cells vs e true)) :
    HR N w0 (fun id => if id = H.next then some b else ρ id) (H.new (.cells vs e true)) w ∧ ρ.le (fun id => if id = H.next then some b else ρ id) ∧ H.sub (H.new (.cells vs e true)) := by
  have hle : ρ.le (fun id => if id = H.next then some b else ρ id) := by
    intro id b' hb'
    have := h.name_lt hb'
    show (if id = H.next then some b else ρ id) = some b'
    rw [if_neg (by omega)]; exact hb'
  refine ⟨⟨h.below, h.nle, h.glob, ?_, ?_, ?_, ?_⟩, hle, ?_⟩
  · intro id hid
    simp only [Heap.next_new] at hid
    show (if id = H.next then some b else ρ id) = none
    rw [if_neg (by omega)]; exact h.fresh id (by omega)
  · intro id o' ho'
    rw [Heap.get_new] at ho'
    by_cases hid : id = H.next
    · rw [if_pos hid] at ho'
      obtain rfl := Option.some.inj ho'
      exact ⟨b, by simp [hid], ho.mono hle⟩
    · rw [if_neg hid] at ho'
      obtain ⟨b', hb', hr⟩ := h.obj id o' ho'
      exact ⟨b', by simp [hid, hb'], hr.mono hle⟩
  · intro id b' vs' e' hg hb'
    rw [Heap.get_new] at hg
    by_cases hid : id = H.next
    · have : some b = some b' := by simpa [hid] using hb'
      cases this; exact hb
    · rw [if_neg hid] at hg
      exact h.roN id b' vs' e' hg (by simpa [hid] using hb')
  · intro i j bi bj oi oj hij hi hj hoi hoj hbi hbj
    rw [Heap.get_new] at hi hj
    by_cases h1 : i = H.next
    · rw [if_pos h1] at hi; cases hi; simp [O.own] at hoi
    · by_cases h2 : j = H.next
      · rw [if_pos h2] at hj; cases hj; simp [O.own] at hoj
      · rw [if_neg h1] at hi; rw [if_neg h2] at hj
        exact h.apart i j bi bj oi oj hij hi hj hoi hoj (by simpa [h1] using hbi) (by simpa [h2] using hbj)
  · intro id o ho'
    rw [Heap.get_new, if_neg (by have := h.get_lt ho'; omega)]
    exact ho'
/-- a name for nothing -/
theorem HR.skip {N : Nat} {w0 w : World} {ρ : Env} {H : Heap} (h : HR N w0 ρ H w) (b : Base) :
    HR N w0 (fun id => if id = H.next then some b else ρ id) ⟨H.next + 1, H.tr⟩ w ∧ ρ.le (fun id => if id = H.next then some b else ρ id) ∧ H.sub ⟨H.next + 1, H.tr⟩ := by
  have hle : ρ.le (fun id => if id = H.next then some b else ρ id) := by
    intro id b' hb'
    have := h.name_lt hb'
    show (if id = H.next then some b else ρ id) = some b'
    rw [if_neg (by omega)]; exact hb'
  have back : ∀ id o b', H.get id = some o → (if id = H.next then some b else ρ id) = some b' → ρ id = some b' := by
    intro id o b' ho hb'
    rwa [if_neg (by have := h.get_lt ho; omega)] at hb'
  refine ⟨⟨h.below, h.nle, h.glob, ?_, ?_, ?_, ?_⟩, hle, fun _ _ h => h⟩
  · intro id hid
    show (if id = H.next then some b else ρ id) = none
    simp only at hid
    rw [if_neg (by omega)]; exact h.fresh id (by omega)
  · intro id o' ho'
    obtain ⟨b', hb', hr⟩ := h.obj id o' ho'
    exact ⟨b', hle _ _ hb', hr.mono hle⟩
  · intro id b' vs' e' hg hb'
    exact h.roN id b' vs' e' hg (back id _ b' hg hb')
  · intro i j bi bj oi oj hij hi hj hoi hoj hbi hbj
    exact h.apart i j bi bj oi oj hij hi hj hoi hoj (back i _ _ hi hbi) (back j _ _ hj hbj)

theorem add_add (a : Addr) (x y : Nat) : (a.add x).add y = a.add (x + y) := by
  unfold Addr.add
  by_cases hx : x = 0
  · by_cases hy : y = 0
    · simp [hx, hy]
    · simp [hx, hy]
  · by_cases hy : y = 0
    · simp [hx, hy]
    · simp [hx, hy, Nat.add_assoc]

section
variable {Hh : Type} {enc : TypeId × Value → Hh} {P : Program} {W : World} {base : Nat} {held : Bool}

theorem weightsAll_mem {e : TypeId} : ∀ {ds : List (DataW Hh)} {d : DataW Hh}, d ∈ ds → ∀ n ∈ d.weights P e, n ∈ DataW.weightsAll P e ds
  | d0 :: ds, d, hd, n, hn => by
    simp only [DataW.weightsAll, List.mem_append]
    rcases List.mem_cons.1 hd with rfl | hd
    · exact .inl hn
    · exact .inr (weightsAll_mem hd n hn)

theorem cells?_get {a : Addr} {n : Nat} {cs : List Value} (h : W.cells? base a n = some cs) : cs.length = n ∧ ∀ k, k < n → W.cell? (a.add k) = cs[k]? := by
  unfold World.cells? at h
  split at h
  · exact ⟨by simpa using mapM_some_length h, fun k hk => mapM_some_get h k k (by simp [hk])⟩
  · cases h

/-- opening a row of cells -/
theorem opened (n : Nat) : ∀ (t : TypeId) (ks : List Dt) (fuel : Nat) (cs : List Value) (x : DataW Hh × List MemPlace), dtsOf P n t = some ks →
    DataW.trod enc P W base (fun _ => true) held fuel t cs = some x → (∀ m ∈ x.1.weights P t, m ≤ reachBytes) → Opn W ks cs := by
  induction n with
  | zero => intro t ks fuel cs x h; simp [dtsOf] at h
  | succ n ih =>
    intro t ks fuel cs x hk ht hw
    unfold dtsOf at hk
    split at hk
    · rename_i hu
      obtain rfl := Option.some.inj hk
      cases fuel with
      | zero => simp [DataW.trod] at ht
      | succ fuel =>
        unfold DataW.trod at ht
        rw [hu] at ht
        split at ht <;> simp_all
        all_goals exact Opn.one (fun _ => .b _) (fun _ => .b _)
    · rename_i k hu
      obtain rfl := Option.some.inj hk
      cases fuel with
      | zero => simp [DataW.trod] at ht
      | succ fuel =>
        unfold DataW.trod at ht
        rw [hu] at ht
        split at ht <;> simp_all
        exact Opn.one (fun _ => .i _ _) (fun _ => .i _ _ (by simp_all))
    · rename_i hu
      obtain rfl := Option.some.inj hk
      cases fuel with
      | zero => simp [DataW.trod] at ht
      | succ fuel =>
        unfold DataW.trod at ht
        rw [hu] at ht
        split at ht <;> simp_all
        obtain ⟨h1, h2⟩ := ht
        subst h2
        refine Opn.one (fun _ => .s _) (fun _ => .s _ ?_)
        simpa [DataW.weights] using hw
    · rename_i e hu
      obtain ⟨ks1, hk1, hk2⟩ := Option.bind_eq_some_iff.1 hk
      split at hk2
      · rename_i hc
        obtain rfl := Option.some.inj hk2
        obtain ⟨hc, hc0⟩ := hc
        rcases DataW.trod_slice hu ht with ⟨h0, _⟩ | ⟨a, len, cap, elems, rest, m, _, rfl, rfl, hb, hl, hm, hlen, hel, hsp, _⟩
        · subst h0; exact Opn.one (fun _ => .sn) (fun _ => .sn _)
        · obtain ⟨hrl, hr⟩ := hsp rfl
          rw [← hc] at hel hr
          have hel' : ∀ i, i < cap → ∃ y, y ∈ elems ++ rest ∧ (W.cells? base (a.add (i * ks1.length)) ks1.length).bind (DataW.trod enc P W base (fun _ => true) held m e) = some y := by
            intro i hi
            by_cases h : i < len
            · have h' : i < elems.length := by omega
              refine ⟨elems[i], List.mem_append_left _ (List.getElem_mem h'), ?_⟩
              rw [hel i h, List.getElem?_eq_getElem h']
            · have h' : i - len < rest.length := by omega
              refine ⟨rest[i - len], List.mem_append_right _ (List.getElem_mem h'), ?_⟩
              have := hr (i - len) (by omega)
              rw [show len + (i - len) = i by omega] at this
              rw [this, List.getElem?_eq_getElem h']
          have hwe : ∀ y ∈ elems ++ rest, ∀ m' ∈ y.1.weights P e, m' ≤ reachBytes := by
            intro y hy m' hm'
            refine hw m' ?_
            simp only [DataW.weights, hu, List.mem_cons, List.mem_append]
            right
            rcases List.mem_append.1 hy with h | h
            · exact .inl (weightsAll_mem (List.mem_map_of_mem (f := (·.1)) h) m' hm')
            · exact .inr (weightsAll_mem (List.mem_map_of_mem (f := (·.1)) h) m' hm')
          let all := (List.range (cap * ks1.length)).map fun j => (W.cell? (a.add j)).getD (.bool false)
          have hpiece : ∀ i, i < cap → ∃ csi, W.cells? base (a.add (i * ks1.length)) ks1.length = some csi ∧ (all.drop (i * ks1.length)).take ks1.length = csi ∧ Opn W ks1 csi := by
            intro i hi
            obtain ⟨y, hy, hbind⟩ := hel' i hi
            obtain ⟨csi, h1, h2⟩ := Option.bind_eq_some_iff.1 hbind
            refine ⟨csi, h1, ?_, ih e ks1 m csi y hk1 h2 (hwe y hy)⟩
            obtain ⟨g1, g2⟩ := cells?_get h1
            have hin : i * ks1.length + ks1.length ≤ cap * ks1.length := by
              have := Nat.mul_le_mul_right ks1.length (show i + 1 ≤ cap by omega)
              rwa [Nat.succ_mul] at this
            refine List.ext_getElem? fun k => ?_
            by_cases hk' : k < ks1.length
            · rw [List.getElem?_take_of_lt hk', List.getElem?_drop, ← g2 k hk', add_add]
              have h3 : csi[k]? = some (csi[k]'(by omega)) := List.getElem?_eq_getElem (by omega)
              rw [← g2 k hk', add_add] at h3
              rw [h3]
              simp only [all, List.getElem?_map]
              rw [List.getElem?_range (by omega)]
              simp [h3]
            · rw [List.getElem?_eq_none (by simp; omega), List.getElem?_eq_none (by omega)]
          have hopn : Opn W (List.replicate cap ks1).flatten (all.take (cap * ks1.length)) := Opn.rep cap fun i hi => by
            obtain ⟨csi, _, h2, h3⟩ := hpiece i hi
            rw [h2]; exact h3
          have hall : all.take (cap * ks1.length) = all := List.take_of_length_le (by simp [all])
          rw [hall] at hopn
          intro ρ H hh
          obtain ⟨H1, ρ1, vs, s1, l1, r1, e1, f1⟩ := hopn ρ H hh
          have hvl : vs.length = cap * ks1.length := by rw [f1.1]; simp
          have hfit : ∀ (H' : Heap), H1.sub H' → ∀ (j : Nat) (v : V) (d : Dt), vs[j]? = some v → ks1[j % ks1.length]? = some d → Fit H' d v := by
            intro H' hs j v d h1 h2
            refine ((f1.2 j v d h1 ?_)).mono hs
            have hj : j < cap * ks1.length := by rw [← hvl]; exact (List.getElem?_eq_some_iff.1 h1).1
            rw [← h2]
            clear h1 h2 hs
            have key : ∀ (n j : Nat), j < n * ks1.length → (List.replicate n ks1).flatten[j]? = ks1[j % ks1.length]? := by
              intro n
              induction n with
              | zero => intro j hj; simp at hj
              | succ n ihn =>
                intro j hj
                rw [List.replicate_succ, List.flatten_cons]
                by_cases h : j < ks1.length
                · rw [List.getElem?_append_left h, Nat.mod_eq_of_lt h]
                · rw [List.getElem?_append_right (by omega), ihn _ (by rw [Nat.succ_mul] at hj; omega), Nat.mod_eq_sub_mod (a := j) (by omega)]
            exact key cap j hj
          by_cases hcap : cap = 0
          · obtain ⟨g1, g2, g3⟩ := r1.skip ⟨0, 0, 0⟩
            refine ⟨_, _, [.sl ⟨some (H1.next, 0), len, .ex cap⟩], fun _ _ h => g3 _ _ (s1 _ _ h), l1.trans g2, g1, .cons _ _ _ _ (.sx _ _ _ _ ⟨0, 0, 0⟩ _ (by simp) hl (fun h => absurd hcap h)) .nil, rfl, fun j v d h1 h2 => ?_⟩
            cases j with
            | zero =>
              simp at h1 h2; subst h1; subst h2
              exact .sl ks1 _ _ _ vs 0 hl hm hc0 hvl (fun h => absurd hcap h) (hfit _ g3)
            | succ j => simp at h1
          · have hpos : 0 < cap * ks1.length := Nat.mul_pos (by omega) (by omega)
            have hcell : ∀ j, j < cap * ks1.length → ∃ y, W.cell? (a.add j) = some y ∧ all[j]? = some y := by
              intro j hj
              have hi : j / ks1.length < cap := Nat.div_lt_of_lt_mul (by rwa [Nat.mul_comm] at hj)
              obtain ⟨csi, h1, h2, _⟩ := hpiece (j / ks1.length) hi
              obtain ⟨g1, g2⟩ := cells?_get h1
              have hm' : j % ks1.length < ks1.length := Nat.mod_lt _ (by omega)
              have h3 := g2 _ hm'
              rw [add_add, Nat.mul_comm, Nat.div_add_mod, List.getElem?_eq_getElem (by omega)] at h3
              exact ⟨_, h3, by simp only [all, List.getElem?_map]; rw [List.getElem?_range hj]; simp [h3]⟩
            obtain ⟨y0, hy0, _⟩ := hcell 0 hpos
            have hspot := World.cell?_spot hy0
            simp [Addr.add] at hspot
            have hcl : ∃ c el fz, W.heap[a.block]? = some (.cells c el fz) := by
              simp [Addr.add] at hy0
              unfold World.cell? at hy0
              split at hy0
              · rename_i c el fz h; exact ⟨c, el, fz, h⟩
              · cases hy0
            obtain ⟨c, el, fz, hblk⟩ := hcl
            have hat : ∀ j, j < cap * ks1.length → c[a.off + j]? = all[j]? := by
              intro j hj
              obtain ⟨y, h1, h2⟩ := hcell j hj
              rw [h2, ← h1]
              by_cases hj0 : j = 0
              · subst hj0; simp [Addr.add, World.cell?, hblk, hspot]
              · simp [Addr.add, hj0, World.cell?, hblk]
            have hsz : a.off + cap * ks1.length ≤ c.size := by
              obtain ⟨y, h1, h2⟩ := hcell (cap * ks1.length - 1) (by omega)
              have := hat (cap * ks1.length - 1) (by omega)
              rw [h2] at this
              have := (Array.getElem?_eq_some_iff.1 this).1
              omega
            obtain ⟨g1, g2, g3⟩ := r1.view vs el ⟨a.block, a.off, c.size⟩ (Array.getElem?_eq_some_iff.1 hblk).1
              ⟨c, fz, hblk, by rw [hvl]; exact hsz, fun j v hv => by
                obtain ⟨y, hy, hrel⟩ := e1.get j v hv
                exact ⟨y, by rw [hat j (by rw [← hvl]; exact (List.getElem?_eq_some_iff.1 hv).1)]; exact hy, hrel⟩, fun h => by cases h⟩
            refine ⟨_, _, [.sl ⟨some (H1.next, 0), len, .ex cap⟩], fun _ _ h => g3 _ _ (s1 _ _ h), l1.trans g2, g1, .cons _ _ _ _ (.sx _ _ _ _ ⟨a.block, a.off, c.size⟩ _ (by simp) hl (fun _ => ?_)) .nil, rfl, fun j v d h1 h2 => ?_⟩
            · cases a; simp at hspot ⊢; exact hspot
            · cases j with
              | zero =>
                simp at h1 h2; subst h1; subst h2
                exact .sl ks1 _ _ _ vs el hl hm hc0 hvl (fun _ => by simp) (hfit _ g3)
              | succ j => simp at h1
      · cases hk2
    · rename_i fs hu
      obtain ⟨ks1, hk1, hk2⟩ := Option.bind_eq_some_iff.1 hk
      split at hk2
      · rename_i hc
        obtain rfl := Option.some.inj hk2
        obtain ⟨xs, m, _, rfl, hl, hlen, hf⟩ := DataW.trod_struct hu ht
        have key : ∀ (fl : List Field) (pre : List Field) (off : Nat) (ks : List Dt), fs.toList = pre ++ fl → fieldsK P (dtsOf P n) fl off = some ks → Opn W ks ((cs.drop off).take ks.length) := by
          intro fl
          induction fl with
          | nil => intro pre off ks _ h; simp [fieldsK] at h; subst h; simpa using Opn.nil W
          | cons f fl ihf =>
            intro pre off ks hpre h
            unfold fieldsK at h
            split at h
            · rename_i hoff
              obtain ⟨k1, h1, h2⟩ := Option.bind_eq_some_iff.1 h
              split at h2
              · rename_i hkl
                obtain ⟨k2, h3, h4⟩ := Option.bind_eq_some_iff.1 h2
                obtain rfl := Option.some.inj h4
                have hfi : fs[pre.length]? = some f := by rw [← Array.getElem?_toList, hpre]; simp
                have hx := hf pre.length f hfi
                have hxi : ∃ y, xs[pre.length]? = some y := by
                  refine ⟨xs[pre.length]'?_, List.getElem?_eq_getElem _⟩
                  rw [hlen]; exact (Array.getElem?_eq_some_iff.1 hfi).1
                obtain ⟨y, hy⟩ := hxi
                rw [hy, hoff, ← hkl] at hx
                have o1 : Opn W k1 ((cs.drop off).take k1.length) := ih f.type k1 m _ y h1 hx fun m' hm' => by
                  refine hw m' ?_
                  simp only [DataW.weights, hu]
                  refine DataW.weights_mem_each (j := pre.length) (t := f.type) (d := y.1) ?_ ?_ m' hm'
                  · simp [hfi]
                  · simp [hy]
                have o2 := ihf (pre ++ [f]) (off + k1.length) k2 (by simp [hpre]) h3
                have := o1.append o2
                rw [List.length_append, List.take_add, List.drop_drop]
                exact this
              · cases h2
            · cases h
        have := key fs.toList [] 0 ks1 rfl hk1
        rw [List.drop_zero, List.take_of_length_le (by omega)] at this
        exact this
      · cases hk2
    · rename_i cnt e hu
      obtain ⟨ks1, hk1, hk2⟩ := Option.bind_eq_some_iff.1 hk
      split at hk2
      · rename_i hc
        obtain rfl := Option.some.inj hk2
        obtain ⟨xs, m, _, rfl, hl, hlen, hf⟩ := DataW.trod_array hu ht
        have o : Opn W (List.replicate cnt ks1).flatten (cs.take (cnt * ks1.length)) := Opn.rep cnt fun i hi => by
          have hx := hf i hi
          have hi' : i < xs.length := by omega
          rw [← hc.1, List.getElem?_eq_getElem hi'] at hx
          refine ih e ks1 m _ _ hk1 hx fun m' hm' => hw m' ?_
          simp only [DataW.weights, hu]
          exact weightsAll_mem (List.mem_map_of_mem (f := (·.1)) (List.getElem_mem hi')) m' hm'
        rw [List.take_of_length_le (by omega)] at o
        exact o
      · cases hk2
    · cases hk
end
end Go.Proofs.YteipplgcdbaokaaDoor.AM

/- The checks of arguments, the counters of wrong units, over the machine's heap. -/
import Derived.Test.YtkldpkemnmmbgaaGJ
import Derived.Test.YtkldpkemnmmbgaaAmC
namespace Go.Proofs.Ytkldpkemnmmbgaa
open Go AM Go.RowKit
set_option linter.unusedVariables false
set_option linter.unusedSimpArgs false
def okA (n : Int) : Bool := decide (1 ≤ n) && decide (n ≤ 1048576)
def clampI (v hi : Int) : Int := if v > hi then hi else if v > 0 then v else 0
section
variable {R : Type} {H : Heap}
theorem s26 (n : Int) (K : Bool → Heap → Option R) : g26 R n H K = K (!okA n) H := by
  simp only [g26, g26_r, g26_p0]
  unfold okA
  by_cases h1 : n < 1
  · have : ¬ 1 ≤ n := by omega
    simp [h1, this]
  · have h2 : 1 ≤ n := by omega
    by_cases h3 : n > 1048576
    · have : ¬ n ≤ 1048576 := by omega
      simp [h1, h2, h3, this]
    · have : n ≤ 1048576 := by omega
      simp [h1, h2, h3, this]
theorem s40 (n : Int) (K : Bool → Heap → Option R) : g40 R n H K = K (!okA n) H := by
  simp only [g40, g40_r, g40_p0]
  unfold okA
  by_cases h1 : n < 1
  · have : ¬ 1 ≤ n := by omega
    simp [h1, this]
  · have h2 : 1 ≤ n := by omega
    by_cases h3 : n > 1048576
    · have : ¬ n ≤ 1048576 := by omega
      simp [h1, h2, h3, this]
    · have : n ≤ 1048576 := by omega
      simp [h1, h2, h3, this]
theorem s37 {id : Nat} {l : List Int} {e : TypeId} {ro : Bool} (h : H.get id = some (.cells (l.map (V.i .i64)) e ro)) (hl : l.length ≤ 1000) {c : Cap} (K : Int → Heap → Option R) :
    g37 R ⟨some (id, 0), l.length, c⟩ H K = K (match l.findIdx? (fun x => !okA x) with | none => -1 | some j => (j : Int)) H := by
  obtain ⟨r, H', e1, e2⟩ := tlim_inv (b := g37_p2_b g26) (fun s G => G = H ∧ ∃ i : Nat, s = (⟨some (id, 0), l.length, c⟩, (l.length : Int), (i : Int)) ∧ i ≤ l.length ∧ (l.take i).all okA = true)
    (fun s => l.length - s.2.2.toNat) (fun r G => G = H ∧ r = match l.findIdx? (fun x => !okA x) with | none => .inl () | some j => .inr (j : Int)) (by
      rintro s G ⟨rfl, i, rfl, h2, h3⟩
      by_cases hi : i < l.length
      · have hd : decide ((i : Int) < (l.length : Int)) = true := by simp; omega
        have hld : G.ldI .i64 id (0 + (i : Int).toNat * 1) = some l[i] := ldI_of h (by simp [hi])
        by_cases ho : okA l[i] = true
        · left
          refine ⟨(⟨some (id, 0), l.length, c⟩, (l.length : Int), ((i + 1 : Nat) : Int)), G, ?_, ⟨rfl, i + 1, rfl, by omega, ?_⟩, by dsimp only; omega⟩
          · simp only [g37_p2_b, g37_p1, hd, sel_true]
            rw [if_pos (by omega)]
            simp only [Option.bind_some, hld, s26, ho, Bool.not_true, sel_false]
            rw [w64 (by omega)]
            rfl
          · rw [List.take_add_one, List.getElem?_eq_getElem hi, List.all_append, h3]; simp [ho]
        · right
          refine ⟨.inr (i : Int), G, ?_, rfl, ?_⟩
          · simp only [g37_p2_b, g37_p1, hd, sel_true]
            rw [if_pos (by omega)]
            simp only [Option.bind_some, hld, s26, ho, Bool.not_false, sel_true]
          · have : l.findIdx? (fun x => !okA x) = some i := by
              rw [List.findIdx?_eq_some_iff_getElem]
              refine ⟨hi, by simpa using ho, fun j hj => ?_⟩
              have := List.all_eq_true.1 h3 l[j] (by rw [List.mem_take_iff_getElem]; exact ⟨j, by omega, rfl⟩)
              simp [this]
            rw [this]
      · right
        have hd : decide ((i : Int) < (l.length : Int)) = false := by simp; omega
        refine ⟨.inl (), G, ?_, rfl, ?_⟩
        · simp only [g37_p2_b, g37_p1, hd, sel_false]
        · rw [List.take_of_length_le (by omega)] at h3
          have : l.findIdx? (fun x => !okA x) = none := by
            rw [List.findIdx?_eq_none_iff]; intro x hx; simp [List.all_eq_true.1 h3 x hx]
          rw [this]) (⟨some (id, 0), l.length, c⟩, (l.length : Int), 0) H ⟨rfl, 0, rfl, by omega, rfl⟩
  obtain ⟨rfl, e3⟩ := e2
  subst e3
  simp only [g37, g37_r, g37_p6, g37_p0, g37_p5, g37_p3, g37_p2, g37_p4, e1, Option.bind_some]
  cases l.findIdx? (fun x => !okA x) with
  | none => rfl
  | some j => rfl
theorem s27 {id : Nat} {l : List Int} {e : TypeId} {ro : Bool} (h : H.get id = some (.cells (l.map (V.i .i64)) e ro)) (hl : l.length ≤ 1000) {c : Cap} (K : Bool → Heap → Option R) :
    g27 R ⟨some (id, 0), l.length, c⟩ H K = K (!l.all okA) H := by
  simp only [g27, g27_r, g27_p0, s37 h hl]
  congr 1
  cases hf : l.findIdx? (fun x => !okA x) with
  | none =>
    rw [List.findIdx?_eq_none_iff] at hf
    have : l.all okA = true := by rw [List.all_eq_true]; intro x hx; simpa using hf x hx
    rw [this]; rfl
  | some j =>
    obtain ⟨hj, h1, _⟩ := List.findIdx?_eq_some_iff_getElem.1 hf
    have : l.all okA = false := by
      rw [← Bool.not_eq_true]; intro hall
      rw [List.all_eq_true.1 hall l[j] (List.getElem_mem hj)] at h1; cases h1
    rw [this]; simp
theorem s37v1 {id : Nat} {l : List Int} {e : TypeId} {ro : Bool} (h : H.get id = some (.cells (l.map (V.i .i64)) e ro)) (hl : l.length ≤ 1000) {c : Cap} (K : Int → Heap → Option R) :
    g37v1 R ⟨some (id, 0), l.length, c⟩ H K = K (match l.findIdx? (fun x => !okA x) with | none => -1 | some j => (j : Int)) H := by
  obtain ⟨r, H', e1, e2⟩ := tlim_inv (b := g37v1_p2_b g40) (fun s G => G = H ∧ ∃ i : Nat, s = (⟨some (id, 0), l.length, c⟩, (l.length : Int), (i : Int)) ∧ i ≤ l.length ∧ (l.take i).all okA = true)
    (fun s => l.length - s.2.2.toNat) (fun r G => G = H ∧ r = match l.findIdx? (fun x => !okA x) with | none => .inl () | some j => .inr (j : Int)) (by
      rintro s G ⟨rfl, i, rfl, h2, h3⟩
      by_cases hi : i < l.length
      · have hd : decide ((i : Int) < (l.length : Int)) = true := by simp; omega
        have hld : G.ldI .i64 id (0 + (i : Int).toNat * 1) = some l[i] := ldI_of h (by simp [hi])
        by_cases ho : okA l[i] = true
        · left
          refine ⟨(⟨some (id, 0), l.length, c⟩, (l.length : Int), ((i + 1 : Nat) : Int)), G, ?_, ⟨rfl, i + 1, rfl, by omega, ?_⟩, by dsimp only; omega⟩
          · simp only [g37v1_p2_b, g37v1_p1, hd, sel_true]
            rw [if_pos (by omega)]
            simp only [Option.bind_some, hld, s40, ho, Bool.not_true, sel_false]
            rw [w64 (by omega)]
            rfl
          · rw [List.take_add_one, List.getElem?_eq_getElem hi, List.all_append, h3]; simp [ho]
        · right
          refine ⟨.inr (i : Int), G, ?_, rfl, ?_⟩
          · simp only [g37v1_p2_b, g37v1_p1, hd, sel_true]
            rw [if_pos (by omega)]
            simp only [Option.bind_some, hld, s40, ho, Bool.not_false, sel_true]
          · have : l.findIdx? (fun x => !okA x) = some i := by
              rw [List.findIdx?_eq_some_iff_getElem]
              refine ⟨hi, by simpa using ho, fun j hj => ?_⟩
              have := List.all_eq_true.1 h3 l[j] (by rw [List.mem_take_iff_getElem]; exact ⟨j, by omega, rfl⟩)
              simp [this]
            rw [this]
      · right
        have hd : decide ((i : Int) < (l.length : Int)) = false := by simp; omega
        refine ⟨.inl (), G, ?_, rfl, ?_⟩
        · simp only [g37v1_p2_b, g37v1_p1, hd, sel_false]
        · rw [List.take_of_length_le (by omega)] at h3
          have : l.findIdx? (fun x => !okA x) = none := by
            rw [List.findIdx?_eq_none_iff]; intro x hx; simp [List.all_eq_true.1 h3 x hx]
          rw [this]) (⟨some (id, 0), l.length, c⟩, (l.length : Int), 0) H ⟨rfl, 0, rfl, by omega, rfl⟩
  obtain ⟨rfl, e3⟩ := e2
  subst e3
  simp only [g37v1, g37v1_r, g37v1_p6, g37v1_p0, g37v1_p5, g37v1_p3, g37v1_p2, g37v1_p4, e1, Option.bind_some]
  cases l.findIdx? (fun x => !okA x) with
  | none => rfl
  | some j => rfl
theorem s27v1 {id : Nat} {l : List Int} {e : TypeId} {ro : Bool} (h : H.get id = some (.cells (l.map (V.i .i64)) e ro)) (hl : l.length ≤ 1000) {c : Cap} (K : Bool → Heap → Option R) :
    g27v1 R ⟨some (id, 0), l.length, c⟩ H K = K (!l.all okA) H := by
  simp only [g27v1, g27v1_r, g27v1_p0, s37v1 h hl]
  congr 1
  cases hf : l.findIdx? (fun x => !okA x) with
  | none =>
    rw [List.findIdx?_eq_none_iff] at hf
    have : l.all okA = true := by rw [List.all_eq_true]; intro x hx; simpa using hf x hx
    rw [this]; rfl
  | some j =>
    obtain ⟨hj, h1, _⟩ := List.findIdx?_eq_some_iff_getElem.1 hf
    have : l.all okA = false := by
      rw [← Bool.not_eq_true]; intro hall
      rw [List.all_eq_true.1 hall l[j] (List.getElem_mem hj)] at h1; cases h1
    rw [this]; simp
theorem s39 {id : Nat} {l : List Int} {e : TypeId} {ro : Bool} (h : H.get id = some (.cells (l.map (V.i .i64)) e ro)) (hl : l.length ≤ 1000) {c : Cap} (K : Bool → Heap → Option R) :
    g39 R ⟨some (id, 0), l.length, c⟩ H K = K (l.all okA) H := by
  simp only [g39, g39_r, g39_p0, s27v1 h hl, Bool.not_not]
theorem s38 (l : Int) (hl : okA l = true) (K : V → Int → Heap → Option R) : g38 R l H K = K (.ifc 73 (.p (some (H.next + 1, 0)))) 0 ((H.new (.cells [.i .i64 l] 3 false)).new (.cells [.i .i64 0, .i .i64 l] 77 false)) := by
  have := s39 (R := R) (l := [l]) (c := .ex 1) (Heap.gnew H (.cells [.i .i64 l] 3 false)) (by simp)
  simp only [List.length_cons, List.length_nil, Nat.zero_add, Nat.reduceAdd, List.all_cons, List.all_nil, Bool.and_true, hl] at this
  simp only [g38, g38_r, g38_p0, alo, this]
  rfl
variable {id : Nat}
theorem s58 {lv lim : Int} {rest : List V} {e : TypeId} {ro : Bool} (h : H.get id = some (.cells (.i .i64 lv :: .i .i64 lim :: rest) e ro)) (K : Bool → Heap → Option R) : g58 R (some (id, 0)) H K = K (lv == lim) H := by
  simp [g58, g58_r, g58_p0, Heap.ldI, Heap.ld, h, V.asI]
theorem s61 {a b c : Int} (hb : b ≤ c) (K : Int → Heap → Option R) (hl : b = 0) : g61 R a b c H K = K (clampI a c) H := by
  subst hl
  have : (if (if c < a then c else a) > 0 then (if c < a then c else a) else 0) = clampI a c := by
    unfold clampI
    split <;> split <;> first | rfl | omega
  simp only [g61, g61_r, g61_p0, this]
theorem s60 {lv lim n : Int} {rest : List V} {e : TypeId} (h : H.get id = some (.cells (.i .i64 lv :: .i .i64 lim :: rest) e false)) (hl : 0 ≤ lim) (hn : -9223372036854775808 ≤ lv + n ∧ lv + n ≤ 9223372036854775807) (K : Heap → Option R) :
    g60 R (some (id, 0)) n H K = K (H.put id (.cells (.i .i64 (clampI (lv + n) lim) :: .i .i64 lim :: rest) e false)) := by
  have e1 : H.ldI .i64 id 0 = some lv := ldI_of h rfl
  have e2 : H.ldI .i64 id 1 = some lim := ldI_of h rfl
  simp only [g60, g60_r, g60_p0, Option.bind_some, Nat.add_zero, Nat.zero_add, e1, e2]
  rw [w64 hn, s61 hl _ rfl]
  simp only [Heap.st, h, V.one]
  simp
theorem s56 {lv lim : Int} (h : H.get id = some (.cells [.i .i64 lv, .i .i64 lim] 77 false)) (hl : 0 ≤ lv ∧ lv < lim ∧ lim ≤ 1048576) (K : Heap → Option R) :
    g56 R (some (id, 0)) false H K = K (H.put id (.cells [.i .i64 (lv + 1), .i .i64 lim] 77 false)) := by
  simp only [g56, g56_r, g56_p0, Option.bind_some, Nat.add_zero, Nat.zero_add, Bool.not_false, sel_true]
  rw [s60 h (by omega) (by omega)]
  have : clampI (lv + 1) lim = lv + 1 := by unfold clampI; rw [if_neg (by omega), if_pos (by omega)]
  rw [this]
theorem mv73c (id : Nat) : methodV Try.prog 73 (.p (some (id, 0))) "Count" = some (56, .p (some (id, 0))) := by kernel_rfl
theorem mv73o (id : Nat) : methodV Try.prog 73 (.p (some (id, 0))) "Over" = some (58, .p (some (id, 0))) := by kernel_rfl
theorem exR0 (K : V → Option R) : exR Try.prog 0 (.tup []) K = K (.tup []) := by kernel_rfl
theorem stT56 {off : Nat} (e : Nat) (K : Heap → Option R) : stT Try.prog H 56 id off (.ifc 73 (.p (some (e, 0)))) K = (H.st id off (.ifc 73 (.p (some (e, 0))))).bind K := by kernel_rfl
end
end Go.Proofs.Ytkldpkemnmmbgaa


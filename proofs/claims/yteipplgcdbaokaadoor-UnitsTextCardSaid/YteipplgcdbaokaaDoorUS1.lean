/- UnitsNumbers. -/
import Derived.Test.YteipplgcdbaokaaDoorGJ
import Derived.Test.YteipplgcdbaokaaDoorAmC
namespace Go.Proofs.YteipplgcdbaokaaDoor
open Go AM Go.RowKit
set_option linter.unusedVariables false
set_option linter.unusedSimpArgs false

theorem s19 {R : Type} {n k : Int} (hn : 0 ≤ n ∧ n ≤ 255) (H : Heap) (K : Int → Heap → Option R) : g19 R n k H K = K ((n + k) % 128) H := by
  simp only [g19, g19_r, g19_p0, wr8]
  congr 1
  rw [tmodp (by omega)]
  rcases Int.le_total 0 k with h | h
  · rw [tmodp h]; omega
  · rw [tmodn h]; omega
theorem s20 {R : Type} {f t : Int} (hf : 0 ≤ f ∧ f ≤ 255) (ht : 0 ≤ t ∧ t ≤ 255) (H : Heap) (K : Int → Heap → Option R) : g20 R f t H K = K ((t - f) % 128) H := by
  simp only [g20, g20_r, g20_p0, wr8]
  congr 1
  rw [tmodp (by omega), wr64 (by omega) (by omega)]
  omega
theorem s19' {R : Type} {n k : Int} (h0 : 0 ≤ n) (h1 : n ≤ 255) (H : Heap) (K : Int → Heap → Option R) : g19 R n k H K = K ((n + k) % 128) H := s19 ⟨h0, h1⟩ H K
theorem s20' {R : Type} {f t : Int} (h0 : 0 ≤ f) (h1 : f ≤ 255) (h2 : 0 ≤ t) (h3 : t ≤ 255) (H : Heap) (K : Int → Heap → Option R) : g20 R f t H K = K ((t - f) % 128) H := s20 ⟨h0, h1⟩ ⟨h2, h3⟩ H K
theorem s8 {R : Type} (H : Heap) (K : Bool → Heap → Option R) : g8 R H K = K true H := rfl
theorem unitsNumbers_true (H : Heap) (hw : H.Wf) (n t k l : Int) (h1 : (Lit.int .u8 n).wf = true) (h2 : (Lit.int .u8 t).wf = true) (h3 : (Lit.int .i64 k).wf = true) (h4 : (Lit.int .i64 l).wf = true) :
    g6 Bool n t k l H (fun r _ => some r) = some true := by
  have hn := wfU8 h1
  have ht := wfU8 h2
  have hk := wfI64 h3
  have hl := wfI64 h4
  have hg := Heap.gnew H (.cells [(V.i .i64 k), (V.i .i64 l)] 40 false)
  have e1 := @s20 Bool n ((n + 128) % 256) hn (by omega)
  have e2 := @s20 Bool n ((n + k) % 128) hn (by omega)
  have e3 := @s20 Bool ((n + 128) % 256) (((n + k) % 128 + 128) % 256) (by omega) (by omega)
  have e6 := fun k' => @s19 Bool ((n + k) % 128) k' (by omega)
  simp only [g6, g6_r, g6_p0, alo, s19 hn, e1, e2, e3, e6, s20 hn ht, s20 ht hn, s8, Nat.zero_add, ldI_of (off := 0) hg rfl, ldI_of (off := 1) hg rfl, Option.bind_some, wr8, selN, selE, selD]
  have htn : Int.tmod n 128 = n % 128 := tmodp hn.1
  have htt : Int.tmod t 128 = t % 128 := tmodp ht.1
  obtain ⟨l1, hl1, hl2⟩ : ∃ l1, Int.tmod l 1000000 = l1 ∧ (-1000000 < l1 ∧ l1 < 1000000) := ⟨_, rfl, by
    rcases Int.le_total 0 l with h | h
    · rw [tmodp h]; omega
    · rw [tmodn h]; omega⟩
  obtain ⟨k1, hk1, hk2⟩ : ∃ k1, Int.tmod k 128 = k1 ∧ (-128 < k1 ∧ k1 < 128 ∧ (k1 - k) % 128 = 0) := ⟨_, rfl, by
    rcases Int.le_total 0 k with h | h
    · rw [tmodp h]; omega
    · rw [tmodn h]; omega⟩
  rw [htn, htt, hl1, hk1]
  rw [if_neg (by omega), if_pos (by omega), if_pos (by omega)]
  split
  · simp (disch := omega) only [wr64, tmodp]
    rw [if_pos (by omega), if_pos (by omega), if_pos (by omega), if_pos (by omega), if_pos (by omega), if_pos (by omega), if_pos (by omega), if_pos (by omega)]
  · simp (disch := omega) only [wr64, tmodp]
    rw [if_pos (by omega), if_pos (by omega), if_pos (by omega), if_pos (by omega), if_pos (by omega), if_pos (by omega), if_pos (by omega), if_pos (by omega)]
end Go.Proofs.YteipplgcdbaokaaDoor


/- MonitorsErrors: the law's own run. -/
import Derived.Test.YtbkncpmgpogakaaMS3
import Derived.Test.YtbkncpmgpogakaaGM
namespace Go.Proofs.Ytbkncpmgpogakaa
open Go AM Go.RowKit
set_option linter.unusedVariables false
set_option linter.unusedSimpArgs false
theorem errors_step {H : Heap} {p q : Nat} {l : List Int} {bs : List V} (h1 : H.get p = some (.cells (l.map (V.i .i64)) 42 false)) (h2 : H.get q = some (.cells bs 43 false)) (hl : l.length = 4) (hb : bs.length = 4) (i : Nat) (hi : i < 4) :
    g8_p2_b g16 g15 g17 g9 (p, 0, q, 0, (i : Int)) H = some (.go (p, 0, q, 0, ((i + 1 : Nat) : Int)), H.put q (.cells (bs.set i (.b (okA (l[i]'(by omega))))) 43 false)) := by
  have hd : decide ((i : Int) < 4) = true := by simp; omega
  have hld : H.ldI .i64 p (0 + (i : Int).toNat * 1) = some (l[i]'(by omega)) := ldI_of h1 (by simp)
  have hst : ∀ x : Bool, H.st q (0 + (i : Int).toNat * 1) (.b x) = some (H.put q (.cells (bs.set i (.b x)) 43 false)) := fun x => by
    have := st_of (v := .b x) (off := i) h2 (by omega) rfl
    simpa using this
  simp only [g8_p2_b, g8_p1, hd, sel_true]
  rw [if_pos (by omega)]
  simp only [hld, Option.bind_some]
  rw [if_pos (by omega), if_pos (by omega), w64 (by omega)]
  rw [if_pos (by omega)]
  simp only [hst, Option.bind_some]
  generalize l[i]'(by omega) = x
  unfold okA
  by_cases hx : 1 ≤ x
  · have : decide (x ≥ 1) = true := by simpa using hx
    simp [this, hx]
  · have : decide (x ≥ 1) = false := by simpa using hx
    simp [this, hx]
theorem w9_one {R : Type} (H : Heap) (K : Bool → Heap → Option R) : g9 R H K = K true H := rfl
theorem errors_true (H0 : Heap) (a b c d : Int) : g8 Bool a b c d H0 (fun r _ => some r) = some true := by
  have e0 : ∀ (K : Nat → Nat → Nat → Nat → Int → Heap → Option Bool), g8_p0 g16 g15 g17 g9 Bool a b c d H0 K = K H0.next 0 (H0.next + 1) 0 0 (((H0.new (.cells [.i .i64 a, .i .i64 b, .i .i64 c, .i .i64 d] 42 false)).new (.cells [.b false, .b false, .b false, .b false] 43 false)).put (H0.next + 1) (.cells [.b false, .b false, .b false, .b false] 43 false)) := by
    intro K
    simp only [g8_p0, alo]
    rw [sts_of (off := 0) (l := [.b false, .b false, .b false, .b false]) (Heap.gnew _ _) (by simp) rfl]
    rfl
  simp only [g8, g8_r, g8_p8, e0, g8_p7, g8_p3, g8_p2]
  generalize hH : (((H0.new (.cells [.i .i64 a, .i .i64 b, .i .i64 c, .i .i64 d] 42 false)).new (.cells [.b false, .b false, .b false, .b false] 43 false)).put (H0.next + 1) (.cells [.b false, .b false, .b false, .b false] 43 false)) = H
  have h1 : H.get H0.next = some (.cells ([a, b, c, d].map (V.i .i64)) 42 false) := by rw [← hH]; simp
  have h2 : H.get (H0.next + 1) = some (.cells [.b false, .b false, .b false, .b false] 43 false) := by rw [← hH]; simp
  have hn : H.next = H0.next + 2 := by rw [← hH]; rfl
  clear hH e0
  generalize H0.next = p at *
  have q0 := tlim_go (errors_step h1 h2 rfl rfl 0 (by omega))
  have hp : ∀ x, (H.put (p + 1) x).get p = some (.cells ([a, b, c, d].map (V.i .i64)) 42 false) := fun x => by rw [Heap.get_put, if_neg (by omega)]; exact h1
  have q1 := tlim_go (errors_step (hp (.cells [.b (okA a), .b false, .b false, .b false] 43 false)) (Heap.gput _ _ _) rfl rfl 1 (by omega))
  have q2 := tlim_go (errors_step (hp (.cells [.b (okA a), .b (okA b), .b false, .b false] 43 false)) (Heap.gput _ _ _) rfl rfl 2 (by omega))
  have q3 := tlim_go (errors_step (hp (.cells [.b (okA a), .b (okA b), .b (okA c), .b false] 43 false)) (Heap.gput _ _ _) rfl rfl 3 (by omega))
  simp only [Heap.put_put, List.set_cons_zero, List.set_cons_succ, List.getElem_cons_zero, List.getElem_cons_succ] at q0 q1 q2 q3
  have q4 : ∀ G : Heap, tlim (g8_p2_b g16 g15 g17 g9) (p, 0, p + 1, 0, ((3 + 1 : Nat) : Int)) G = some ((p, 0, p + 1, 0), G) := fun G => tlim_up (by simp [g8_p2_b, g8_p1])
  rw [show ((0 : Nat) : Int) = 0 from rfl] at q0
  rw [q0, q1, q2, q3, q4]
  simp only [Option.bind_some]
  generalize hG : H.put (p + 1) (.cells [.b (okA a), .b (okA b), .b (okA c), .b (okA d)] 43 false) = G
  have g1 : G.get p = some (.cells [.i .i64 a, .i .i64 b, .i .i64 c, .i .i64 d] 42 false) := by rw [← hG]; simp; exact h1
  have g2 : G.get (p + 1) = some (.cells [.b (okA a), .b (okA b), .b (okA c), .b (okA d)] 43 false) := by rw [← hG]; simp
  have gn : G.next = p + 2 := by rw [← hG]; exact hn
  clear hG q0 q1 q2 q3 q4 h1 h2 hn hp
  simp only [g8_p6, g8_p4, s16, s15, s17, w9_one, g8_p5]
  have n1 : ¬ p = p + 2 + 1 := by omega
  have n2 : ¬ p = p + 2 := by omega
  have n3 : ¬ p + 1 = p + 2 + 1 := by omega
  have n4 : ¬ p + 1 = p + 2 := by omega
  have n5 : ¬ p = p + 2 + 1 + 1 := by omega
  have n6 : ¬ p = p + 2 + 1 + 1 + 1 := by omega
  have n7 : ¬ p + 1 = p + 2 + 1 + 1 := by omega
  have n8 : ¬ p + 1 = p + 2 + 1 + 1 + 1 := by omega
  cases ha : okA a <;> cases hb : okA b <;> cases hc : okA c <;> cases hd : okA d <;>
    simp [Heap.ldI, Heap.ldB, Heap.ld, g1, g2, gn, V.asI, V.asB, V.one, ifNil, ha, hb, hc, hd, n1, n2, n3, n4, n5, n6, n7, n8]
theorem monitorsErrors_true (H : Heap) (_ : H.Wf) (a b c d : Int) (_ : (Lit.int .i64 a).wf = true) (_ : (Lit.int .i64 b).wf = true) (_ : (Lit.int .i64 c).wf = true) (_ : (Lit.int .i64 d).wf = true) : g8 Bool a b c d H (fun r _ => some r) = some true := errors_true H a b c d
end Go.Proofs.Ytbkncpmgpogakaa

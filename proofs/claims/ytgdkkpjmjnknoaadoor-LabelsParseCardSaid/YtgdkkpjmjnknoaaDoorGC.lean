/- Contracts of functions that are not printed. -/
import Derived.Test.YtgdkkpjmjnknoaaDoorGT
import Derived.Test.YtgdkkpjmjnknoaaDoorAmC
import Derived.Test.YtgdkkpjmjnknoaaDoorShelf
import Derived.Lib.MakeNoZero
import Derived.Shelf.Strings.SplitShaped
namespace Go.Proofs.YtgdkkpjmjnknoaaDoor
open Go AM Go.RowKit
set_option linter.unusedVariables false
set_option linter.unusedSimpArgs false
theorem uint64pow10_named : Tryd.prog.globalNamed "internal/strconv.uint64pow10" = some 1 := by kernel_rfl
noncomputable def g29 : T29 := fun R x H K => if -9223372036854775808 ≤ x ∧ x ≤ 9223372036854775807 then K (itoaS x) H else none
theorem g29_lin : Lin29 g29 := ⟨fun h => il0 (h _ _)⟩
theorem ok29 : FunOK Tryd.prog 29 (w29 g29) := by
  refine .mk (fun args w => enters_run (by kernel_rfl) args w) (fun R args H K r N w0 w ρ xs hk hr hh => ?_)
  unfold w29 at hk
  split at hk
  · rename_i x
    unfold g29 at hk
    split at hk
    · rename_i hb
      cases hr with
      | cons _ _ _ _ r1 r2 =>
      cases r1; cases r2
      have htab := tab_of_glob (k := .u64) (zs := Lib.pow10Tab) uint64pow10_named (by rw [show globs = [(1, Lib.pow10Tab.map fun z => Value.int .u64 z)] by kernel_rfl]; simp) hh.glob hh.below
      refine (Any.strconv_Itoa Tryd.laysM171 x hb.1 hb.2 w htab).mono fun e w' ⟨he, k, os, hw⟩ => ?_
      subst hw
      refine ⟨_, he, .s (itoaS x), H, ρ, ρ.le_refl, ?_, hh.grown k os, hk⟩
      unfold itoaS; rw [decI_eq hb.1 hb.2]; exact .s _
    · cases hk
  · cases hk
noncomputable def bc : Code := Tryd.f50.body.getD .skip
noncomputable def bo (p : List Nat) : List Oper := match codeAt p bc with
  | .region _ ops _ => ops.toList
  | _ => []
noncomputable def bop (p : List Nat) (k : Nat) : Oper := (bo p).getD k ⟨none, .move (.tmp 0), 0, "", #[], none⟩
theorem bc_eq : bc = .seq (.region 0 (bo [0]).toArray false) (.cond (.tmp 6) (.region 1 (bo [1, 0]).toArray false) (.seq (.region 2 (bo [1, 1, 0]).toArray false) (.cond (.tmp 19) (codeAt [1, 1, 1, 0] bc) .skip))) := by kernel_rfl
noncomputable def g50 : T50 := fun R p H K => copyCk 82 p H K
theorem g50_lin : Lin50 g50 := ⟨fun h => copyCk_lin h⟩
theorem bc_r0 (H : Heap) (id : Nat) : evOps Tryd.prog [] Tryd.f50.ntmps (bo [0]) (bo [0]) [(0, .p (some (id, 0)))] H (fun fr H => some (fr, H)) = (H.ldP id (0 + 0)).bind fun x => some ([(0, .p (some (id, 0))), (2, .p (some (id, 0))), (3, .p (some (id, 0))), (4, .p (some (id, 0 + 0))), (5, .p x), (6, .b (Option.isNone x))], H) := by kernel_rfl
theorem bc_used {N : Nat} {w0 : Ref} {id : Nat} {H : Heap} {x : V} (hg : H.get id = some (.cells [.p (some (id, 0)), x] 82 false)) : DW Tryd.prog N w0 Tryd.f50.ntmps bc (argFr 0 [.p (some (id, 0))]) H fun e fr' H' => e = .normal ∧ H' = H := by
  rw [bc_eq]
  have l0 : H.ldP id 0 = some (some (id, 0)) := ldP_of hg rfl
  refine DW.seq (DW.region (DL.ev (EnvGood.nil _).ok (q := ([(0, .p (some (id, 0))), (2, .p (some (id, 0))), (3, .p (some (id, 0))), (4, .p (some (id, 0 + 0))), (5, .p (some (id, 0))), (6, .b false)], H)) ?_ ?_))
  · refine (bc_r0 H id).trans ?_
    rw [l0]; rfl
  refine DW.cond (b := false) rfl ?_
  refine DW.seq (DW.region ?_)
  refine DL.goEv (EnvGood.nil _).ok (o := bop [1, 1, 0] 0) (rest' := (bo [1, 1, 0]).drop 1) (v := .p (some (id, 0))) (H' := H) (fr' := [(0, .p (some (id, 0))), (2, .p (some (id, 0))), (3, .p (some (id, 0))), (4, .p (some (id, 0 + 0))), (5, .p (some (id, 0))), (6, .b false), (14, .p (some (id, 0)))]) (by kernel_rfl) (by kernel_rfl) (by kernel_rfl) (by kernel_rfl) (by kernel_rfl) ?_
  refine DL.goEv (EnvGood.nil _).ok (o := bop [1, 1, 0] 1) (rest' := (bo [1, 1, 0]).drop 2) (v := .p (some (id, 0))) (H' := H) (fr' := [(0, .p (some (id, 0))), (2, .p (some (id, 0))), (3, .p (some (id, 0))), (4, .p (some (id, 0 + 0))), (5, .p (some (id, 0))), (6, .b false), (14, .p (some (id, 0))), (15, .p (some (id, 0)))]) (by kernel_rfl) (by kernel_rfl) (by kernel_rfl) (by kernel_rfl) (by kernel_rfl) ?_
  refine DL.goEv (EnvGood.nil _).ok (o := bop [1, 1, 0] 2) (rest' := (bo [1, 1, 0]).drop 3) (v := .p (some (id, 0 + 0))) (H' := H) (fr' := [(0, .p (some (id, 0))), (2, .p (some (id, 0))), (3, .p (some (id, 0))), (4, .p (some (id, 0 + 0))), (5, .p (some (id, 0))), (6, .b false), (14, .p (some (id, 0))), (15, .p (some (id, 0))), (16, .p (some (id, 0 + 0)))]) (by kernel_rfl) (by kernel_rfl) (by kernel_rfl) (by kernel_rfl) (by kernel_rfl) ?_
  refine DL.goEv (EnvGood.nil _).ok (o := bop [1, 1, 0] 3) (rest' := (bo [1, 1, 0]).drop 4) (v := .p (some (id, 0))) (H' := H) (fr' := [(0, .p (some (id, 0))), (2, .p (some (id, 0))), (3, .p (some (id, 0))), (4, .p (some (id, 0 + 0))), (5, .p (some (id, 0))), (6, .b false), (14, .p (some (id, 0))), (15, .p (some (id, 0))), (16, .p (some (id, 0 + 0))), (17, .p (some (id, 0)))]) (by kernel_rfl) (by kernel_rfl) (by kernel_rfl) ?_ (by kernel_rfl) ?_
  · refine (show evOp Tryd.prog [] (evalO [(0, .p (some (id, 0))), (2, .p (some (id, 0))), (3, .p (some (id, 0))), (4, .p (some (id, 0 + 0))), (5, .p (some (id, 0))), (6, .b false), (14, .p (some (id, 0))), (15, .p (some (id, 0))), (16, .p (some (id, 0 + 0)))]) H (bop [1, 1, 0] 3).op (bop [1, 1, 0] 3).type ret2 = (H.ldP id (0 + 0)).bind fun x => some (.p x, H) by kernel_rfl).trans ?_
    rw [l0]; rfl
  refine DL.goEv (EnvGood.nil _).ok (o := bop [1, 1, 0] 4) (rest' := (bo [1, 1, 0]).drop 5) (v := .p (some (id, 0))) (H' := H) (fr' := [(0, .p (some (id, 0))), (2, .p (some (id, 0))), (3, .p (some (id, 0))), (4, .p (some (id, 0 + 0))), (5, .p (some (id, 0))), (6, .b false), (14, .p (some (id, 0))), (15, .p (some (id, 0))), (16, .p (some (id, 0 + 0))), (17, .p (some (id, 0))), (18, .p (some (id, 0)))]) (by kernel_rfl) (by kernel_rfl) (by kernel_rfl) (by kernel_rfl) (by kernel_rfl) ?_
  refine DL.go (o := bop [1, 1, 0] 5) (rest' := []) (v := .b false) (H' := H) (fr' := [(0, .p (some (id, 0))), (2, .p (some (id, 0))), (3, .p (some (id, 0))), (4, .p (some (id, 0 + 0))), (5, .p (some (id, 0))), (6, .b false), (14, .p (some (id, 0))), (15, .p (some (id, 0))), (16, .p (some (id, 0 + 0))), (17, .p (some (id, 0))), (18, .p (some (id, 0))), (19, .b false)]) (by kernel_rfl) (by kernel_rfl) (by kernel_rfl)
    (DO.ptrSame (t := 80) (e := 82) (yt := 80) (x := .tmp 17) (y := .tmp 18) (q := (id, 0)) (by kernel_rfl) rfl rfl (by kernel_rfl) (j := (Tryd.prog.info? 82).getD default) (by kernel_rfl) (by kernel_rfl)) (by kernel_rfl) ?_
  refine DL.nil ?_
  refine DW.cond (b := false) rfl ?_
  exact DW.skip ⟨rfl, rfl⟩
theorem bc_fresh {N : Nat} {w0 : Ref} {id : Nat} {H : Heap} {x : V} (hg : H.get id = some (.cells [.p none, x] 82 false)) : DW Tryd.prog N w0 Tryd.f50.ntmps bc (argFr 0 [.p (some (id, 0))]) H fun e fr' H' => e = .normal ∧ H' = H.put id (.cells [.p (some (id, 0)), x] 82 false) := by
  rw [bc_eq]
  have l0 : H.ldP id 0 = some none := ldP_of hg rfl
  have s0 : H.st id 0 (.p (some (id, 0))) = some (H.put id (.cells [.p (some (id, 0)), x] 82 false)) := st_of hg (by simp) rfl
  refine DW.seq (DW.region (DL.ev (EnvGood.nil _).ok (q := ([(0, .p (some (id, 0))), (2, .p (some (id, 0))), (3, .p (some (id, 0))), (4, .p (some (id, 0 + 0))), (5, .p none), (6, .b true)], H)) ?_ ?_))
  · refine (bc_r0 H id).trans ?_
    rw [l0]; rfl
  refine DW.cond (b := true) rfl ?_
  refine DW.region ?_
  refine DL.goEv (EnvGood.nil _).ok (o := bop [1, 0] 0) (rest' := (bo [1, 0]).drop 1) (v := .p (some (id, 0))) (H' := H) (fr' := [(0, .p (some (id, 0))), (2, .p (some (id, 0))), (3, .p (some (id, 0))), (4, .p (some (id, 0 + 0))), (5, .p none), (6, .b true), (7, .p (some (id, 0)))]) (by kernel_rfl) (by kernel_rfl) (by kernel_rfl) (by kernel_rfl) (by kernel_rfl) ?_
  refine DL.goEv (EnvGood.nil _).ok (o := bop [1, 0] 1) (rest' := (bo [1, 0]).drop 2) (v := .p (some (id, 0))) (H' := H) (fr' := [(0, .p (some (id, 0))), (2, .p (some (id, 0))), (3, .p (some (id, 0))), (4, .p (some (id, 0 + 0))), (5, .p none), (6, .b true), (7, .p (some (id, 0))), (8, .p (some (id, 0)))]) (by kernel_rfl) (by kernel_rfl) (by kernel_rfl) (by kernel_rfl) (by kernel_rfl) ?_
  refine DL.go (o := bop [1, 0] 2) (rest' := (bo [1, 0]).drop 3) (v := .p (some (id, 0))) (H' := H) (fr' := [(0, .p (some (id, 0))), (2, .p (some (id, 0))), (3, .p (some (id, 0))), (4, .p (some (id, 0 + 0))), (5, .p none), (6, .b true), (7, .p (some (id, 0))), (8, .p (some (id, 0))), (9, .p (some (id, 0)))]) (by kernel_rfl) (by kernel_rfl) (by kernel_rfl)
    (DO.toUnsafe (src := 80) (dst := 102) (t := 82) (x := .tmp 8) (by kernel_rfl) rfl (by kernel_rfl) (by kernel_rfl) (j := (Tryd.prog.info? 82).getD default) (by kernel_rfl) (by rw [show ((Tryd.prog.info? 82).getD default).size = 2 by kernel_rfl]; decide) hg rfl (by simp)) (by kernel_rfl) ?_
  refine DL.go (o := bop [1, 0] 3) (rest' := (bo [1, 0]).drop 4) (v := .p (some (id, 0))) (H' := H) (fr' := [(0, .p (some (id, 0))), (2, .p (some (id, 0))), (3, .p (some (id, 0))), (4, .p (some (id, 0 + 0))), (5, .p none), (6, .b true), (7, .p (some (id, 0))), (8, .p (some (id, 0))), (9, .p (some (id, 0))), (10, .p (some (id, 0)))]) (by kernel_rfl) (by kernel_rfl) (by kernel_rfl)
    (DO.noEscape (f := 60) (x := .tmp 9) (ts := #[102]) (by kernel_rfl) rfl Tryd.func60 (by kernel_rfl) (by kernel_rfl) (by kernel_rfl) (by kernel_rfl)) (by kernel_rfl) ?_
  refine DL.go (o := bop [1, 0] 4) (rest' := (bo [1, 0]).drop 5) (v := .p (some (id, 0))) (H' := H) (fr' := [(0, .p (some (id, 0))), (2, .p (some (id, 0))), (3, .p (some (id, 0))), (4, .p (some (id, 0 + 0))), (5, .p none), (6, .b true), (7, .p (some (id, 0))), (8, .p (some (id, 0))), (9, .p (some (id, 0))), (10, .p (some (id, 0))), (11, .p (some (id, 0)))]) (by kernel_rfl) (by kernel_rfl) (by kernel_rfl)
    (DO.fromUnsafe (src := 102) (dst := 80) (u := 82) (x := .tmp 10) (by kernel_rfl) rfl (by kernel_rfl) (by kernel_rfl) (j := (Tryd.prog.info? 82).getD default) (by kernel_rfl) hg rfl (by kernel_rfl)) (by kernel_rfl) ?_
  have e1 : evOps Tryd.prog [] Tryd.f50.ntmps (bo [1, 0]) ((bo [1, 0]).drop 5) [(0, .p (some (id, 0))), (2, .p (some (id, 0))), (3, .p (some (id, 0))), (4, .p (some (id, 0 + 0))), (5, .p none), (6, .b true), (7, .p (some (id, 0))), (8, .p (some (id, 0))), (9, .p (some (id, 0))), (10, .p (some (id, 0))), (11, .p (some (id, 0)))] H (fun fr H => some (fr, H)) =
      (H.st id (0 + 0) (.p (some (id, 0)))).bind fun H' => some ([(0, .p (some (id, 0))), (2, .p (some (id, 0))), (3, .p (some (id, 0))), (4, .p (some (id, 0 + 0))), (5, .p none), (6, .b true), (7, .p (some (id, 0))), (8, .p (some (id, 0))), (9, .p (some (id, 0))), (10, .p (some (id, 0))), (11, .p (some (id, 0))), (12, .p (some (id, 0))), (13, .p (some (id, 0 + 0)))], H') := by kernel_rfl
  rw [Nat.zero_add, s0] at e1
  exact DL.ev (EnvGood.nil _).ok e1 ⟨rfl, rfl⟩
theorem ok50 : FunOK Tryd.prog 50 (w50 g50) := by
  refine .mk (fun args w => enters_run (by kernel_rfl) args w) (fun R args H K r N w0 w ρ xs hk hr hh => ?_)
  unfold w50 at hk
  split at hk
  · rename_i p
    unfold g50 copyCk at hk
    split at hk
    · rename_i id
      split at hk
      · rename_i x e hg
        split at hk
        · rename_i he
          subst he
          refine (calls_of_DW (P := Tryd.prog) Tryd.func50 (c := bc) (by kernel_rfl) (args := [.p (some (id, 0))]) (Φ := fun v H' => v = .tup [] ∧ H' = H.put id (.cells [.p (some (id, 0)), x] 82 false)) (Nat.le_of_ble_eq_true (by kernel_rfl)) ((bc_fresh hg).mono fun e fr' H' ⟨h1, h2⟩ => ?_) hr hh).mono fun e w' ⟨c, h1, v, H', ρ', h2, h3, h4, h5, h6⟩ => ?_
          · subst h1; exact ⟨(.tup [], H'), by kernel_rfl, rfl, h2⟩
          · subst h5; subst h6; exact ⟨c, h1, _, _, ρ', h2, h3, h4, hk⟩
        · cases hk
      · rename_i q x e hg
        split at hk
        · rename_i he
          obtain ⟨rfl, rfl⟩ := he
          refine (calls_of_DW (P := Tryd.prog) Tryd.func50 (c := bc) (by kernel_rfl) (args := [.p (some (id, 0))]) (Φ := fun v H' => v = .tup [] ∧ H' = H) (Nat.le_of_ble_eq_true (by kernel_rfl)) ((bc_used hg).mono fun e fr' H' ⟨h1, h2⟩ => ?_) hr hh).mono fun e w' ⟨c, h1, v, H', ρ', h2, h3, h4, h5, h6⟩ => ?_
          · subst h1; exact ⟨(.tup [], H'), by kernel_rfl, rfl, h2⟩
          · subst h5; subst h6; exact ⟨c, h1, _, _, ρ', h2, h3, h4, hk⟩
        · cases hk
      · cases hk
    · cases hk
  · cases hk
noncomputable def g61 : T61 := fun R x H K => if 0 ≤ x ∧ x ≤ 140737488355328 then K ⟨some (H.next, 0), x.toNat, .op 1⟩ (H.new (.cells [] 5 false)) else none
theorem g61_lin : Lin61 g61 := ⟨fun h => il0 (h _ _)⟩
theorem ok61 : FunOK Tryd.prog 61 (w61 g61) := by
  intro R args H K r N w0 w ρ xs hk hr hh
  unfold w61 at hk
  split at hk
  · rename_i x
    unfold g61 at hk
    split at hk
    · rename_i hb
      cases hr with
      | cons _ _ _ _ r1 r2 =>
      cases r1; cases r2
      obtain ⟨m, rfl⟩ : ∃ m : Nat, x = (m : Int) := ⟨x.toNat, by omega⟩
      obtain ⟨cs, hrun, hle, hmax⟩ := Lib.run_makeNoZero (P := Tryd.prog) w #[3] 36 5 (by kernel_rfl) m (by omega)
      have h2 := run_callFunc_extern Tryd.func61 (by kernel_rfl) (by kernel_rfl) (by kernel_rfl) (e := Extern.BytealgMakeNoZero.makeNoZero #[3] #[36]) (by kernel_rfl) #[.int .i64 m] w
      rw [hrun] at h2
      simp only [Result.andThen_ok] at h2
      have hd : HR N w0 ρ H w.drew.drew := ((hh.drawn _ : HR N w0 ρ H w.drew)).drawn _
      obtain ⟨ρ', g1, g2, g3⟩ := new_sound hd (vs := []) (c := cs) (e := 5) (fun j v hv => by simp at hv) (Nat.zero_le _) (fun hq => by rw [show exactT 5 = false by kernel_rfl] at hq; cases hq)
      refine .inl ⟨_, _, h2, .sl ⟨some (H.next, 0), m, .op 1⟩, H.new (.cells [] 5 false), ρ', g1, ?_, g2, by simpa using hk⟩
      exact .so H.next 0 m 1 cs.size ⟨w.heap.size, 0, cs.size⟩ ⟨w.heap.size, 0, none⟩ g3 hle (hmax (by unfold maxLen; omega)) (by simp) (fun _ => rfl)
    · cases hk
  · cases hk
noncomputable def g15 : T15 := fun R s sep H K => if s.size < 4294967281 ∧ 1 ≤ sep.size then K ⟨some (H.next, 0), Lib.count s.data.toList sep.data.toList + 1, .ex (Lib.count s.data.toList sep.data.toList + 1)⟩ (H.new (.cells ((Lib.split s.data.toList sep.data.toList).map fun l => .s ⟨l.toArray⟩) 9 false)) else none
theorem g15_lin : Lin15 g15 := ⟨fun h => il0 (h _ _)⟩
theorem ok15 : FunOK Tryd.prog 15 (w15 g15) := by
  refine .mk (fun args w => enters_run (by kernel_rfl) args w) (fun R args H K r N w0 w ρ xs hk hr hh => ?_)
  unfold w15 at hk
  split at hk
  · rename_i s sep
    unfold g15 at hk
    split at hk
    · rename_i hb
      cases hr with
      | cons _ _ _ _ r1 r2 =>
      cases r2 with
      | cons _ _ _ _ r3 r4 =>
      cases r1; cases r3; cases r4
      obtain ⟨i1, c, e, fz, m, i2, i3⟩ := hh.glob.2 0 (by rw [show ints = [0] by kernel_rfl]; simp)
      have hm : w.cell? ⟨0, 0, none⟩ = some (.int .i64 m) := by
        have := (hh.below.block _ i1).trans i2
        simp [World.cell?, this, i3]
      refine (Any.strings_Split { Tryd.laysM146 with } Tryd.laysM146.i9 s sep m w hb.1 hm hb.2).mono fun e w' ⟨he, hw⟩ => ?_
      subst hw
      have hs : (Lib.splitB sep 0 (Lib.countB s sep) s).map Value.string = (Lib.split s.data.toList sep.data.toList).map fun l => Value.string ⟨l.toArray⟩ := by
        have h1 := Lib.splitB_data sep 0 (Lib.countB s sep) s
        have h2 : Lib.split s.data.toList sep.data.toList = (Lib.splitB sep 0 (Lib.countB s sep) s).map (·.data.toList) := h1.symm
        rw [h2, List.map_map]
        exact List.map_congr_left fun x _ => by simp
      obtain ⟨ρ', g1, g2, g3⟩ := new_sound' hh (vs := (Lib.split s.data.toList sep.data.toList).map fun l => .s ⟨l.toArray⟩) (xs := (Lib.split s.data.toList sep.data.toList).map fun l => Value.string ⟨l.toArray⟩) (e := 9)
        (Rels.of_get _ _ (by simp) fun j v hv => by
          rw [List.getElem?_map] at hv ⊢
          cases hx : (Lib.split s.data.toList sep.data.toList)[j]? with
          | none => rw [hx] at hv; simp at hv
          | some l => rw [hx] at hv; simp at hv; subst hv; exact ⟨_, rfl, .s _⟩)
      refine ⟨_, he, .sl ⟨some (H.next, 0), Lib.count s.data.toList sep.data.toList + 1, .ex (Lib.count s.data.toList sep.data.toList + 1)⟩, _, ρ', g1, ?_, ?_, hk⟩
      · exact .sx H.next 0 _ _ _ _ g3 (Nat.le_refl _) (fun _ => rfl)
      · rw [hs]; exact g2
    · cases hk
  · cases hk
noncomputable def baseE : FEnv := [(29, w29 g29), (50, w50 g50), (61, w61 g61), (15, w15 g15)]
theorem baseE_good : EnvGood Tryd.prog baseE := (((((EnvGood.nil _).cons ok15 (w15_lin g15_lin)).cons ok61 (w61_lin g61_lin)).cons ok50 (w50_lin g50_lin)).cons ok29 (w29_lin g29_lin))
end Go.Proofs.YtgdkkpjmjnknoaaDoor


/- Contracts of functions that are not printed. -/
import Derived.Test.YteipplgcdbaokaaDoorGT
import Derived.Test.YteipplgcdbaokaaDoorAmC
import Derived.Test.YteipplgcdbaokaaDoorShelf
namespace Go.Proofs.YteipplgcdbaokaaDoor
open Go AM Go.RowKit
set_option linter.unusedVariables false
set_option linter.unusedSimpArgs false
theorem uint64pow10_named : Tryd.prog.globalNamed "internal/strconv.uint64pow10" = some 0 := by kernel_rfl
noncomputable def g22 : T22 := fun R x H K => if -9223372036854775808 ≤ x ∧ x ≤ 9223372036854775807 then K (itoaS x) H else none
theorem g22_lin : Lin22 g22 := ⟨fun h => il0 (h _ _)⟩
theorem ok22 : FunOK Tryd.prog 22 (w22 g22) := by
  refine ⟨fun args w => enters_run (by kernel_rfl) args w, fun R args H K r N w0 w ρ xs hk hr hh => ?_⟩
  unfold w22 at hk
  split at hk
  · rename_i x
    unfold g22 at hk
    split at hk
    · rename_i hb
      cases hr with
      | cons _ _ _ _ r1 r2 =>
      cases r1; cases r2
      have htab := tab_of_glob (k := .u64) (zs := Lib.pow10Tab) uint64pow10_named (by rw [show globs = [(0, Lib.pow10Tab.map fun z => Value.int .u64 z)] by kernel_rfl]; simp) hh.glob hh.below
      refine (Any.strconv_Itoa Tryd.laysM171 x hb.1 hb.2 w htab).mono fun e w' ⟨he, k, os, hw⟩ => ?_
      subst hw
      refine ⟨_, he, .s (itoaS x), H, ρ, ρ.le_refl, ?_, hh.grown k os, hk⟩
      unfold itoaS; rw [decI_eq hb.1 hb.2]; exact .s _
    · cases hk
  · cases hk
noncomputable def bc : Code := Tryd.f40.body.getD .skip
noncomputable def bo (p : List Nat) : List Oper := match codeAt p bc with
  | .region _ ops _ => ops.toList
  | _ => []
noncomputable def bop (p : List Nat) (k : Nat) : Oper := (bo p).getD k ⟨none, .move (.tmp 0), 0, "", #[], none⟩
theorem bc_eq : bc = .seq (.region 0 (bo [0]).toArray false) (.cond (.tmp 6) (.region 1 (bo [1, 0]).toArray false) (.seq (.region 2 (bo [1, 1, 0]).toArray false) (.cond (.tmp 19) (codeAt [1, 1, 1, 0] bc) .skip))) := by kernel_rfl
noncomputable def g40 : T40 := fun R p H K => copyCk 66 p H K
theorem g40_lin : Lin40 g40 := ⟨fun h => copyCk_lin h⟩
theorem bc_r0 (H : Heap) (id : Nat) : evOps Tryd.prog [] Tryd.f40.ntmps (bo [0]) (bo [0]) [(0, .p (some (id, 0)))] H (fun fr H => some (fr, H)) = (H.ldP id (0 + 0)).bind fun x => some ([(0, .p (some (id, 0))), (2, .p (some (id, 0))), (3, .p (some (id, 0))), (4, .p (some (id, 0 + 0))), (5, .p x), (6, .b (Option.isNone x))], H) := by kernel_rfl
theorem bc_used {N : Nat} {w0 : World} {id : Nat} {H : Heap} {x : V} (hg : H.get id = some (.cells [.p (some (id, 0)), x] 66 false)) : DW Tryd.prog N w0 Tryd.f40.ntmps bc (argFr 0 [.p (some (id, 0))]) H fun e fr' H' => e = .normal ∧ H' = H := by
  rw [bc_eq]
  have l0 : H.ldP id 0 = some (some (id, 0)) := ldP_of hg rfl
  refine DW.seq (DW.region (DL.ev (EnvGood.nil _).ok (q := ([(0, .p (some (id, 0))), (2, .p (some (id, 0))), (3, .p (some (id, 0))), (4, .p (some (id, 0 + 0))), (5, .p (some (id, 0))), (6, .b false)], H)) ?_ ?_))
  · refine (bc_r0 H id).trans ?_
    rw [l0]; rfl
  refine DW.cond (b := false) rfl ?_
  refine DW.seq (DW.region ?_)
  refine DL.goEv (EnvGood.nil _).ok (o := bop [1, 1, 0] 0) (rest' := (bo [1, 1, 0]).drop 1) (v := .p (some (id, 0))) (H' := H) (fr' := [(0, .p (some (id, 0))), (2, .p (some (id, 0))), (3, .p (some (id, 0))), (4, .p (some (id, 0 + 0))), (5, .p (some (id, 0))), (6, .b false), (14, .p (some (id, 0)))]) (by kernel_rfl) (by kernel_rfl) (by kernel_rfl) (by kernel_rfl) (by kernel_rfl) ?_
  refine DL.goEv (EnvGood.nil _).ok (o := bop [1, 1, 0] 1) (rest' := (bo [1, 1, 0]).drop 2) (v := .p (some (id, 0))) (H' := H) (fr' := [(0, .p (some (id, 0))), (2, .p (some (id, 0))), (3, .p (some (id, 0))), (4, .p (some (id, 0 + 0))), (5, .p (some (id, 0))), (6, .b false), (14, .p (some (id, 0))), (15, .p (some (id, 0)))]) (by kernel_rfl) (by kernel_rfl) (by kernel_rfl) (by kernel_rfl) (by kernel_rfl) ?_
  refine DL.goEv (EnvGood.nil _).ok (o := bop [1, 1, 0] 2) (rest' := (bo [1, 1, 0]).drop 3) (v := .p (some (id, 0 + 0))) (H' := H) (fr' := [(0, .p (some (id, 0))), (2, .p (some (id, 0))), (3, .p (some (id, 0))), (4, .p (some (id, 0 + 0))), (5, .p (some (id, 0))), (6, .b false), (14, .p (some (id, 0))), (15, .p (some (id, 0))), (16, .p (some (id, 0 + 0)))]) (by kernel_rfl) (by kernel_rfl) (by kernel_rfl) (by kernel_rfl) (by kernel_rfl) ?_
  refine DL.goEv (EnvGood.nil _).ok (o := bop [1, 1, 0] 3) (rest' := (bo [1, 1, 0]).drop 4) (v := .p (some (id, 0))) (H' := H) (fr' := [(0, .p (some (id, 0))), (2, .p (some (id, 0))), (3, .p (some (id, 0))), (4, .p (some (id, 0 + 0))), (5, .p (some (id, 0))), (6, .b false), (14, .p (some (id, 0))), (15, .p (some (id, 0))), (16, .p (some (id, 0 + 0))), (17, .p (some (id, 0)))]) (by kernel_rfl) (by kernel_rfl) (by kernel_rfl) ?_ (by kernel_rfl) ?_
  · refine (show evOp Tryd.prog [] (evalO [(0, .p (some (id, 0))), (2, .p (some (id, 0))), (3, .p (some (id, 0))), (4, .p (some (id, 0 + 0))), (5, .p (some (id, 0))), (6, .b false), (14, .p (some (id, 0))), (15, .p (some (id, 0))), (16, .p (some (id, 0 + 0)))]) H (bop [1, 1, 0] 3).op (bop [1, 1, 0] 3).type ret2 = (H.ldP id (0 + 0)).bind fun x => some (.p x, H) by kernel_rfl).trans ?_
    rw [l0]; rfl
  refine DL.goEv (EnvGood.nil _).ok (o := bop [1, 1, 0] 4) (rest' := (bo [1, 1, 0]).drop 5) (v := .p (some (id, 0))) (H' := H) (fr' := [(0, .p (some (id, 0))), (2, .p (some (id, 0))), (3, .p (some (id, 0))), (4, .p (some (id, 0 + 0))), (5, .p (some (id, 0))), (6, .b false), (14, .p (some (id, 0))), (15, .p (some (id, 0))), (16, .p (some (id, 0 + 0))), (17, .p (some (id, 0))), (18, .p (some (id, 0)))]) (by kernel_rfl) (by kernel_rfl) (by kernel_rfl) (by kernel_rfl) (by kernel_rfl) ?_
  refine DL.go (o := bop [1, 1, 0] 5) (rest' := []) (v := .b false) (H' := H) (fr' := [(0, .p (some (id, 0))), (2, .p (some (id, 0))), (3, .p (some (id, 0))), (4, .p (some (id, 0 + 0))), (5, .p (some (id, 0))), (6, .b false), (14, .p (some (id, 0))), (15, .p (some (id, 0))), (16, .p (some (id, 0 + 0))), (17, .p (some (id, 0))), (18, .p (some (id, 0))), (19, .b false)]) (by kernel_rfl) (by kernel_rfl) (by kernel_rfl)
    (DO.ptrSame (t := 64) (e := 66) (yt := 64) (x := .tmp 17) (y := .tmp 18) (q := (id, 0)) (by kernel_rfl) rfl rfl (by kernel_rfl) (j := (Tryd.prog.info? 66).getD default) (by kernel_rfl) (by kernel_rfl)) (by kernel_rfl) ?_
  refine DL.nil ?_
  refine DW.cond (b := false) rfl ?_
  exact DW.skip ⟨rfl, rfl⟩
theorem bc_fresh {N : Nat} {w0 : World} {id : Nat} {H : Heap} {x : V} (hg : H.get id = some (.cells [.p none, x] 66 false)) : DW Tryd.prog N w0 Tryd.f40.ntmps bc (argFr 0 [.p (some (id, 0))]) H fun e fr' H' => e = .normal ∧ H' = H.put id (.cells [.p (some (id, 0)), x] 66 false) := by
  rw [bc_eq]
  have l0 : H.ldP id 0 = some none := ldP_of hg rfl
  have s0 : H.st id 0 (.p (some (id, 0))) = some (H.put id (.cells [.p (some (id, 0)), x] 66 false)) := st_of hg (by simp) rfl
  refine DW.seq (DW.region (DL.ev (EnvGood.nil _).ok (q := ([(0, .p (some (id, 0))), (2, .p (some (id, 0))), (3, .p (some (id, 0))), (4, .p (some (id, 0 + 0))), (5, .p none), (6, .b true)], H)) ?_ ?_))
  · refine (bc_r0 H id).trans ?_
    rw [l0]; rfl
  refine DW.cond (b := true) rfl ?_
  refine DW.region ?_
  refine DL.goEv (EnvGood.nil _).ok (o := bop [1, 0] 0) (rest' := (bo [1, 0]).drop 1) (v := .p (some (id, 0))) (H' := H) (fr' := [(0, .p (some (id, 0))), (2, .p (some (id, 0))), (3, .p (some (id, 0))), (4, .p (some (id, 0 + 0))), (5, .p none), (6, .b true), (7, .p (some (id, 0)))]) (by kernel_rfl) (by kernel_rfl) (by kernel_rfl) (by kernel_rfl) (by kernel_rfl) ?_
  refine DL.goEv (EnvGood.nil _).ok (o := bop [1, 0] 1) (rest' := (bo [1, 0]).drop 2) (v := .p (some (id, 0))) (H' := H) (fr' := [(0, .p (some (id, 0))), (2, .p (some (id, 0))), (3, .p (some (id, 0))), (4, .p (some (id, 0 + 0))), (5, .p none), (6, .b true), (7, .p (some (id, 0))), (8, .p (some (id, 0)))]) (by kernel_rfl) (by kernel_rfl) (by kernel_rfl) (by kernel_rfl) (by kernel_rfl) ?_
  refine DL.go (o := bop [1, 0] 2) (rest' := (bo [1, 0]).drop 3) (v := .p (some (id, 0))) (H' := H) (fr' := [(0, .p (some (id, 0))), (2, .p (some (id, 0))), (3, .p (some (id, 0))), (4, .p (some (id, 0 + 0))), (5, .p none), (6, .b true), (7, .p (some (id, 0))), (8, .p (some (id, 0))), (9, .p (some (id, 0)))]) (by kernel_rfl) (by kernel_rfl) (by kernel_rfl)
    (DO.toUnsafe (src := 64) (dst := 80) (t := 66) (x := .tmp 8) (by kernel_rfl) rfl (by kernel_rfl) (by kernel_rfl) (j := (Tryd.prog.info? 66).getD default) (by kernel_rfl) (by rw [show ((Tryd.prog.info? 66).getD default).size = 2 by kernel_rfl]; decide) hg rfl (by simp)) (by kernel_rfl) ?_
  refine DL.go (o := bop [1, 0] 3) (rest' := (bo [1, 0]).drop 4) (v := .p (some (id, 0))) (H' := H) (fr' := [(0, .p (some (id, 0))), (2, .p (some (id, 0))), (3, .p (some (id, 0))), (4, .p (some (id, 0 + 0))), (5, .p none), (6, .b true), (7, .p (some (id, 0))), (8, .p (some (id, 0))), (9, .p (some (id, 0))), (10, .p (some (id, 0)))]) (by kernel_rfl) (by kernel_rfl) (by kernel_rfl)
    (DO.noEscape (f := 45) (x := .tmp 9) (ts := #[80]) (by kernel_rfl) rfl Tryd.func45 (by kernel_rfl) (by kernel_rfl) (by kernel_rfl) (by kernel_rfl)) (by kernel_rfl) ?_
  refine DL.go (o := bop [1, 0] 4) (rest' := (bo [1, 0]).drop 5) (v := .p (some (id, 0))) (H' := H) (fr' := [(0, .p (some (id, 0))), (2, .p (some (id, 0))), (3, .p (some (id, 0))), (4, .p (some (id, 0 + 0))), (5, .p none), (6, .b true), (7, .p (some (id, 0))), (8, .p (some (id, 0))), (9, .p (some (id, 0))), (10, .p (some (id, 0))), (11, .p (some (id, 0)))]) (by kernel_rfl) (by kernel_rfl) (by kernel_rfl)
    (DO.fromUnsafe (src := 80) (dst := 64) (u := 66) (x := .tmp 10) (by kernel_rfl) rfl (by kernel_rfl) (by kernel_rfl) (j := (Tryd.prog.info? 66).getD default) (by kernel_rfl) hg rfl (by kernel_rfl)) (by kernel_rfl) ?_
  have e1 : evOps Tryd.prog [] Tryd.f40.ntmps (bo [1, 0]) ((bo [1, 0]).drop 5) [(0, .p (some (id, 0))), (2, .p (some (id, 0))), (3, .p (some (id, 0))), (4, .p (some (id, 0 + 0))), (5, .p none), (6, .b true), (7, .p (some (id, 0))), (8, .p (some (id, 0))), (9, .p (some (id, 0))), (10, .p (some (id, 0))), (11, .p (some (id, 0)))] H (fun fr H => some (fr, H)) =
      (H.st id (0 + 0) (.p (some (id, 0)))).bind fun H' => some ([(0, .p (some (id, 0))), (2, .p (some (id, 0))), (3, .p (some (id, 0))), (4, .p (some (id, 0 + 0))), (5, .p none), (6, .b true), (7, .p (some (id, 0))), (8, .p (some (id, 0))), (9, .p (some (id, 0))), (10, .p (some (id, 0))), (11, .p (some (id, 0))), (12, .p (some (id, 0))), (13, .p (some (id, 0 + 0)))], H') := by kernel_rfl
  rw [Nat.zero_add, s0] at e1
  exact DL.ev (EnvGood.nil _).ok e1 ⟨rfl, rfl⟩
theorem ok40 : FunOK Tryd.prog 40 (w40 g40) := by
  refine ⟨fun args w => enters_run (by kernel_rfl) args w, fun R args H K r N w0 w ρ xs hk hr hh => ?_⟩
  unfold w40 at hk
  split at hk
  · rename_i p
    unfold g40 copyCk at hk
    split at hk
    · rename_i id
      split at hk
      · rename_i x e hg
        split at hk
        · rename_i he
          subst he
          refine (calls_of_DW (P := Tryd.prog) Tryd.func40 (c := bc) (by kernel_rfl) (args := [.p (some (id, 0))]) (Φ := fun v H' => v = .tup [] ∧ H' = H.put id (.cells [.p (some (id, 0)), x] 66 false)) (Nat.le_of_ble_eq_true (by kernel_rfl)) ((bc_fresh hg).mono fun e fr' H' ⟨h1, h2⟩ => ?_) hr hh).mono fun e w' ⟨c, h1, v, H', ρ', h2, h3, h4, h5, h6⟩ => ?_
          · subst h1; exact ⟨(.tup [], H'), by kernel_rfl, rfl, h2⟩
          · subst h5; subst h6; exact ⟨c, h1, _, _, ρ', h2, h3, h4, hk⟩
        · cases hk
      · rename_i q x e hg
        split at hk
        · rename_i he
          obtain ⟨rfl, rfl⟩ := he
          refine (calls_of_DW (P := Tryd.prog) Tryd.func40 (c := bc) (by kernel_rfl) (args := [.p (some (id, 0))]) (Φ := fun v H' => v = .tup [] ∧ H' = H) (Nat.le_of_ble_eq_true (by kernel_rfl)) ((bc_used hg).mono fun e fr' H' ⟨h1, h2⟩ => ?_) hr hh).mono fun e w' ⟨c, h1, v, H', ρ', h2, h3, h4, h5, h6⟩ => ?_
          · subst h1; exact ⟨(.tup [], H'), by kernel_rfl, rfl, h2⟩
          · subst h5; subst h6; exact ⟨c, h1, _, _, ρ', h2, h3, h4, hk⟩
        · cases hk
      · cases hk
    · cases hk
  · cases hk
noncomputable def baseE : FEnv := [(22, w22 g22), (40, w40 g40)]
theorem baseE_good : EnvGood Tryd.prog baseE := (((EnvGood.nil _).cons ok40 (w40_lin g40_lin)).cons ok22 (w22_lin g22_lin))
end Go.Proofs.YteipplgcdbaokaaDoor


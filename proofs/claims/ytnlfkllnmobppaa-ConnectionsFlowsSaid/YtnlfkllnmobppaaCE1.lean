/- Two desks in the heap; settle. -/
import Derived.Test.YtnlfkllnmobppaaCD10
import Derived.Test.YtnlfkllnmobppaaCF2
namespace Go.Proofs.Ytnlfkllnmobppaa
open Go AM Go.RowKit
set_option linter.unusedVariables false
set_option linter.unusedSimpArgs false

structure W2 (n0:Nat) (H:Heap) (x y:Nat) (F G:Nat→Prop) (A B:Dk):Prop where
  a:DA n0 H x F A
  b:DA n0 H y G B
  dj:∀ i,F i→¬G i
  fl:∀ i,F i→i < H.next
  gl:∀ i,G i→i < H.next
theorem W2.swap {n0:Nat} {H:Heap} {x y:Nat} {F G:Nat→Prop} {A B:Dk} (h:W2 n0 H x y F G A B):W2 n0 H y x G F B A :=
  ⟨h.b,h.a,fun i hg hf=>h.dj i hf hg,h.gl,h.fl⟩
theorem DA.keep {n0:Nat} {H H':Heap} {y:Nat} {F G:Nat→Prop} {B:Dk} (h:DA n0 H y G B) (hw:H'.Wf) (st:Stp n0 H H' F) (dj:∀ i,F i→¬G i):DA n0 H' y G B:=by
  obtain ⟨t,h1,h2,h3⟩:=h
  exact ⟨t,h1.keep hw (fun i hi=>st.fr.same i (h1.ltf hi) fun hf=>dj i hf (h3 i hi)) st.kp,h2,h3⟩
/-- a step of the first desk -/
theorem W2.step {n0:Nat} {H H':Heap} {x y:Nat} {F G F':Nat→Prop} {A B A':Dk} (h:W2 n0 H x y F G A B) (da:DA n0 H' x F' A') (st:Stp n0 H H' F) (hF:∀ i,F' i→grown F H H' i):W2 n0 H' x y F' G A' B :=
  ⟨da,h.b.keep da.wf st h.dj,fun i hi hg=>by
    have:=h.gl i hg
    rcases hF i hi with hi | hi
    · exact h.dj i hi hg
    · omega,fun i hi=>by
    have:=st.fr.next
    rcases hF i hi with hi | hi
    · have:=h.fl i hi; omega
    · omega,fun i hi=>by have:=h.gl i hi; have:=st.fr.next; omega⟩
/-- what two desks' steps touch -/
structure Mv (n0:Nat) (H:Heap) (F G:Nat→Prop) (H':Heap) (F' G':Nat→Prop):Prop where
  st:Stp n0 H H' (fun i=>F i ∨ G i)
  sub:∀ i,F' i ∨ G' i→(F i ∨ G i) ∨ (H.next ≤ i∧i < H'.next)
section
variable {n0:Nat} {H H' H'':Heap} {F G F' G' F'' G'':Nat→Prop}
theorem Mv.refl (n0:Nat) (H:Heap) (F G:Nat→Prop):Mv n0 H F G H F G:=⟨.refl _ _ _,fun i hi=>.inl hi⟩
theorem Mv.swap (h:Mv n0 H F G H' F' G'):Mv n0 H G F H' G' F':=⟨⟨h.st.fr.mono fun i _ hi=>hi.symm,h.st.kp⟩,fun i hi=>(h.sub i hi.symm).imp Or.symm id⟩
theorem Mv.trans (h:Mv n0 H F G H' F' G') (h':Mv n0 H' F' G' H'' F'' G''):Mv n0 H F G H'' F'' G'':=by
  have n1:=h.st.fr.next
  have n2:=h'.st.fr.next
  refine ⟨⟨⟨by omega,fun i hi hf=>?_⟩,h.st.kp.trans h'.st.kp⟩,fun i hi=>?_⟩
  · rw [h'.st.fr.same i (by omega) (fun hg=>by rcases h.sub i hg with hg | hg; exact hf hg; omega)]
    exact h.st.fr.same i hi hf
  · rcases h'.sub i hi with hi | hi
    · rcases h.sub i hi with hi | hi
      · exact .inl hi
      · exact .inr (by omega)
    · exact .inr (by omega)
theorem Mv.of (st:Stp n0 H H' F) (hF:∀ i,F' i→grown F H H' i):Mv n0 H F G H' F' G :=
  ⟨⟨st.fr.mono fun i _ hi=>.inl hi,st.kp⟩,fun i hi=>by
    rcases hi with hi | hi
    · rcases hF i hi with hi | hi
      · exact .inl (.inl hi)
      · exact .inr hi
    · exact .inl (.inr hi)⟩
/-- an object of someone else stays -/
theorem Mv.obj (h:Mv n0 H F G H' F' G') (hw:H.Wf) {i:Nat} {o:O} (ho:H.get i = some o) (hn:¬F i∧¬G i):H'.get i = some o∧¬F' i∧¬G' i:=by
  have hlt:=hw _ _ ho
  refine ⟨h.st.fr.get hw ho (fun hf=>by rcases hf with hf | hf; exact hn.1 hf; exact hn.2 hf),fun hf=>?_,fun hg=>?_⟩
  · rcases h.sub i (.inl hf) with (hf | hf) | hf
    · exact hn.1 hf
    · exact hn.2 hf
    · omega
  · rcases h.sub i (.inr hg) with (hf | hf) | hf
    · exact hn.1 hf
    · exact hn.2 hf
    · omega
end
/-- the array of the two desks -/
def dcells (k:Int) (x y:Nat):List V:=if k = 0 then [.p (some (x,0)),.p (some (y,0))] else [.p (some (y,0)),.p (some (x,0))]
theorem dc_ld {H:Heap} {q x y:Nat} {k:Int} (hk:k = 0 ∨ k = 1) (h:H.get q = some (.cells (dcells k x y) 40 false)):H.ldP q (0 + Int.toNat k * 1) = some (some (x,0))∧H.ldP q (0 + Int.toNat (1 - k) * 1) = some (some (y,0)):=by
  rcases hk with rfl | rfl
  · exact ⟨ldP_of h rfl,ldP_of h rfl⟩
  · exact ⟨ldP_of h rfl,ldP_of h rfl⟩
theorem dc_flip {k:Int} (hk:k = 0 ∨ k = 1) (x y:Nat):dcells (1 - k) y x = dcells k x y:=by
  rcases hk with rfl | rfl <;> rfl
theorem LRow.keep {n0:Nat} {H H':Heap} {r:Sl} {os:List (Lt × Sl)} {G:Nat→Prop} (h:LRow n0 H r os) (hw:H.Wf) (st:Stp n0 H H' G) (hg:∀ q ∈ sid r,¬G q):LRow n0 H' r os :=
  ⟨h.len,h.cap,fun hne=>by
    obtain ⟨q,a,b⟩:=h.at' hne
    exact ⟨q,a,st.fr.get hw b (hg q (sid_of a))⟩,fun z hz=>(h.dat z hz).kp st.kp⟩
theorem ERow.keep {n0:Nat} {H H':Heap} {r:Sl} {os:List (Et × Sl)} {G:Nat→Prop} (h:ERow n0 H r os) (hw:H.Wf) (st:Stp n0 H H' G) (hg:∀ q ∈ sid r,¬G q):ERow n0 H' r os :=
  ⟨h.len,h.cap,fun hne=>by
    obtain ⟨q,a,b⟩:=h.at' hne
    exact ⟨q,a,st.fr.get hw b (hg q (sid_of a))⟩,fun z hz=>(h.dat z hz).kp st.kp⟩
/-- the cells of a letter -/
theorem LRow.ld {n0 : Nat} {H : Heap} {r : Sl} {os : List (Lt × Sl)} (h : LRow n0 H r os) {j : Nat} {z : Lt × Sl} (hz : os[j]? = some z) :
    ∃ q,r.a = some (q,0)∧H.ldI .u16 q ((0 + j * 9) + 0) = some z.1.to∧H.ldI .u8 q (((0 + j * 9) + 1) + 0) = some z.1.m.k∧H.ldI .u32 q (((0 + j * 9) + 1) + 1) = some z.1.m.f∧H.ldI .u32 q (((0 + j * 9) + 1) + 2) = some z.1.m.t∧H.ldI .u8 q (((0 + j * 9) + 1) + 3) = some z.1.m.c∧H.ldI .u8 q (((0 + j * 9) + 1) + 4) = some z.1.m.n∧H.ldI .u8 q (((0 + j * 9) + 1) + 5) = some z.1.m.x∧H.ldI .u8 q (((0 + j * 9) + 1) + 6) = some z.1.m.u∧H.ldSl q (((0 + j * 9) + 1) + 7) = some z.2:=by
  have hne:os ≠ []:=by rintro rfl; simp at hz
  obtain ⟨q,a,b⟩:=h.at' hne
  have g:∀ c,c < 9→(rows lts os)[j * 9 + c]? = (lts z)[c]?:=fun c hc=>rows_get lts lts_len hz hc
  refine ⟨q,a,ldI_of b ?_,ldI_of b ?_,ldI_of b ?_,ldI_of b ?_,ldI_of b ?_,ldI_of b ?_,ldI_of b ?_,ldI_of b ?_,ldSl_of b ?_⟩
  · rw [Nat.zero_add]; exact g 0 (by omega)
  · rw [Nat.zero_add]; exact g 1 (by omega)
  · rw [Nat.zero_add]; exact g 2 (by omega)
  · rw [Nat.zero_add]; exact g 3 (by omega)
  · rw [Nat.zero_add]; exact g 4 (by omega)
  · rw [Nat.zero_add]; exact g 5 (by omega)
  · rw [Nat.zero_add]; exact g 6 (by omega)
  · rw [Nat.zero_add]; exact g 7 (by omega)
  · rw [Nat.zero_add]; exact g 8 (by omega)
theorem ERow.ld {n0 : Nat} {H : Heap} {r : Sl} {os : List (Et × Sl)} (h : ERow n0 H r os) {j : Nat} {z : Et × Sl} (hz : os[j]? = some z) :
    ∃ q,r.a = some (q,0)∧H.ldI .u32 q ((0 + j * 6) + 0) = some z.1.ref∧H.ldI .u8 q ((0 + j * 6) + 1) = some z.1.what∧H.ldI .u16 q ((0 + j * 6) + 2) = some z.1.fr∧H.ldI .u8 q ((0 + j * 6) + 3) = some z.1.cls∧H.ldI .u8 q ((0 + j * 6) + 4) = some z.1.cau∧H.ldSl q ((0 + j * 6) + 5) = some z.2:=by
  have hne:os ≠ []:=by rintro rfl; simp at hz
  obtain ⟨q,a,b⟩:=h.at' hne
  have g:∀ c,c < 6→(rows ets os)[j * 6 + c]? = (ets z)[c]?:=fun c hc=>rows_get ets ets_len hz hc
  refine ⟨q,a,ldI_of b ?_,ldI_of b ?_,ldI_of b ?_,ldI_of b ?_,ldI_of b ?_,ldSl_of b ?_⟩
  · rw [Nat.zero_add]; exact g 0 (by omega)
  · rw [Nat.zero_add]; exact g 1 (by omega)
  · rw [Nat.zero_add]; exact g 2 (by omega)
  · rw [Nat.zero_add]; exact g 3 (by omega)
  · rw [Nat.zero_add]; exact g 4 (by omega)
  · rw [Nat.zero_add]; exact g 5 (by omega)
section
variable {n0:Nat} {H:Heap} {x y:Nat} {F G:Nat→Prop} {S T:Dk}
theorem k_w {k:Int} (hk:k = 0 ∨ k = 1):IntKind.wrap .i64 (1 - k) = 1 - k∧IntKind.wrap .u16 k = k∧(0 ≤ k∧k < ((2:Nat):Int))∧(0 ≤ 1 - k∧1 - k < ((2:Nat):Int)):=by
  refine ⟨w64 (by omega),w16u (by omega),by omega,by omega⟩
/-- the letters of one side are heard by the other -/
theorem p19_i {k : Int} (hk : k = 0 ∨ k = 1) {r : Sl} {os : List (Lt × Sl)} {i3 : Nat} (t3 : Int) (ho : os.length ≤ 1000000) : ∀ (n j : Nat) (H : Heap) (G : Nat → Prop) (T T' : Dk) (N : Nat) (t4 : Bool), j + n = os.length → W2 n0 H x y F G S T → LRow n0 H r os → (∀ q ∈ sid r, ¬G q ∧ q < H.next) → H.get i3 = some (.cells (dcells k x y) 40 false) → ¬G i3 → (∀ z ∈ os, z.1.m.Ok ∧ 0 ≤ z.1.to ∧ z.1.to ≤ 65535) → deliver k ((os.drop j).map (·.1)) T = some T' → T.Good → T.Le N → N + n ≤ 10000000 →
    ∃ H' G',tlim (g19_p6_b) (i3,0,t3,t4,k,r,(j:Int)) H = some (.inl (i3,0,t3,(t4 || decide (n ≠ 0)),k),H')∧W2 n0 H' x y F G' S T'∧Stp n0 H H' G∧(∀ i,G' i→grown G H H' i)∧T'.Good∧T'.Le (N + n):=by
  obtain ⟨k1,k2,k3,k4⟩:=k_w hk
  intro n
  induction n with
  | zero =>
    intro j H G T T' N t4 hj h hr hq hi hig hok hdel hg hle hN
    have hd:os.drop j = []:=List.drop_of_length_le (by omega)
    rw [hd] at hdel
    simp only [List.map_nil,deliver,Option.some.injEq] at hdel
    subst hdel
    refine ⟨H,G,tlim_up ?_,h,.refl _ _ _,fun i hi=>.inl hi,hg,hle⟩
    unfold g19_p6_b g19_p5
    simp only
    rw [hr.len,decide_eq_false (by omega),sel_false]
    simp
  | succ n ih =>
    intro j H G T T' N t4 hj h hr hq hi hig hok hdel hg hle hN
    have hjl:j < os.length:=by omega
    obtain ⟨z,hz⟩:∃ z,os[j]? = some z:=⟨os[j],by simp [hjl]⟩
    have hd:os.drop j = z :: os.drop (j + 1):=by
      rw [List.drop_eq_getElem_cons hjl]
      congr 1
      have:=List.getElem?_eq_getElem hjl
      rw [this] at hz; exact Option.some.inj hz
    rw [hd] at hdel
    simp only [List.map_cons,deliver] at hdel
    split at hdel
    · rename_i hc
      obtain ⟨hc1,hc2⟩:=hc
      have hzm:=List.mem_of_getElem? hz
      obtain ⟨o1,o2,o3⟩:=hok z hzm
      obtain ⟨H1,e1,d1⟩:=s25 h.b (hle.bd (by omega)) hg.num (fr:=k) o1 (hr.dat z hzm)
      have w1:=h.swap.step d1.da d1.st (fun i hi=>hi)
      have hn1:=d1.st.fr.next
      have hi1:H1.get i3 = some (.cells (dcells k x y) 40 false):=d1.st.fr.get h.a.wf hi hig
      obtain ⟨H2, G2, e2, w2, s2, f2, g2, l2⟩ := ih (j + 1) H1 (grown G H H1) _ T' (N + 1) true (by omega) w1.swap (hr.keep h.a.wf d1.st (fun q hq' => (hq q hq').1)) (fun q hq' => ⟨fun hg => by
          rcases hg with hg | hg
          · exact (hq q hq').1 hg
          · have:=(hq q hq').2; omega,by have:=(hq q hq').2; omega⟩) hi1 (fun hg=>by
          rcases hg with hg | hg
          · exact hig hg
          · have:=h.a.wf _ _ hi; omega) hok hdel (hg.hear k o1) (hle.hear k z.1.m) (by omega)
      refine ⟨H2,G2,?_,w2,d1.st.trans s2,fun i hi=>(f2 i hi).mono hn1 s2.fr.next,g2,l2.mono (by omega)⟩
      have hfin:(t4 || decide (n + 1 ≠ 0)) = (true || decide (n ≠ 0)):=by simp
      rw [hfin,← e2]
      refine tlim_go ?_
      obtain ⟨q,a,b0,b1,b2,b3,b4,b5,b6,b7,b8⟩:=hr.ld hz
      obtain ⟨dl1,dl2⟩:=dc_ld hk hi
      unfold g19_p6_b g19_p5
      simp only
      rw [hr.len,decide_eq_true (by omega),sel_true,if_pos (by omega),a,Option.bind_some,Int.toNat_natCast,b0,Option.bind_some,k1,show IntKind.wrap .i64 z.1.to = z.1.to from w64 (by omega),hc1,show ((1 - k != 1 - k):Bool) = false by simp,sel_false,if_pos k4,dl2,Option.bind_some,if_pos (by omega),Option.bind_some]
      simp only [b1,b2,b3,b4,b5,b6,b7,b8,Option.bind_some,k2,e1]
      rw [hc2,w64 (by omega)]
      rfl
    · cases hdel
end
end Go.Proofs.Ytnlfkllnmobppaa


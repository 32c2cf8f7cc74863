/- Segments: texts and lists of segments. -/
import Derived.Test.YtobebcfkddimkaaLSl
namespace Go.Proofs.Ytobebcfkddimkaa
open Go AM Go.RowKit
set_option linter.unusedVariables false
set_option linter.unusedSimpArgs false

def bsU (l:List UInt8):ByteArray:=⟨l.toArray⟩
def u8s (l:List Int):List UInt8:=l.map fun n=>UInt8.ofNat n.toNat
theorem bytesOf_bcs:∀ l:List Int,bytesOfCells (bcs l) = some (u8s l):=by
  intro l
  induction l with
  | nil=>rfl
  | cons n l ih =>
    show (bytesOfCells (bcs l)).bind _ = _
    rw [ih]; rfl
theorem strEqU (a b:List UInt8):strEq (bsU a) (bsU b) = decide (a = b):=by
  unfold strEq
  rw [ByteArray.toList_eq,ByteArray.toList_eq]
  by_cases h:a = b
  · subst h; simp
  · rw [show decide (a = b) = false by simpa using h]
    exact beq_false_of_ne fun e=>h (by simpa [bsU] using e)
theorem slB {H:Heap} {s:Sl} {l:List Int} (h:BS H s l):slBytes H s = some (bsU (u8s l)):=by
  simp only [slBytes,h.is,Option.bind_some,bytesOf_bcs,bsU]
structure Sg where
  r:Int
  f:Bool
  l:Int
  d:List Int
def Sg.cells (u:Sg) (s:Sl):List V:=[.i .u32 u.r,.b u.f,.i .u8 u.l,.sl s]
theorem slOf_mid {H:Heap} {s:Sl} {l:List Int} (hc:CapOk s) (h:BS H s l) {k b:Nat} (hk:k ≤ b) (hb:b ≤ l.length):∃ s',(∀ (R:Type) (K:Sl→Option R),slOf 1 s (some (k:Int)) (some (b:Int)) none K = K s')∧BS H s' ((l.drop k).take (b - k))∧CapOk s':=by
  obtain ⟨a,n,c⟩:=s
  have hn:n = l.length:=h.len
  have main:∀ a' c',(∀ p,a = some p→k < l.length→a' = some (p.1,p.2 + k))→BS H ⟨a',b - k,c'⟩ ((l.drop k).take (b - k)):=by
    intro a' c' ha
    refine ⟨by simp; omega,?_⟩
    by_cases hkl:k < b
    · have hl:l ≠ []:=by intro e; subst e; simp at hb; omega
      obtain ⟨q,vs,e,ro,h1,h2,h3,h4⟩:=h.there hl
      rw [ha q h1 (by omega)]
      unfold slCells
      simp only [Nat.mul_one]
      rw [if_neg (by omega),lds_of h2 (by omega)]
      have h5:((bcs l).drop k).take (b - k) = bcs ((l.drop k).take (b - k)):=by simp [bcs,List.map_drop,List.map_take]
      rw [← h5,← h4,List.drop_take,List.drop_drop,List.take_take,Nat.min_eq_left (by omega)]
    · unfold slCells
      simp only [Nat.mul_one]
      rw [if_pos (by omega),show b - k = 0 by omega]; rfl
  cases c with
  | ex c =>
    have hc':n ≤ c:=hc
    refine ⟨⟨if ((c:Nat):Int) = (k:Int) then a else a.map fun p=>(p.1,p.2 + k),b - k,.ex (c - k)⟩,fun R K=>?_,main _ _ fun p hp hkl=>?_,by simp [CapOk]; omega⟩
    · simp only [slOf,Option.getD_none,Option.getD_some,Option.isSome_none,Bool.false_and,Bool.false_eq_true,if_false,Int.toNat_natCast,Nat.mul_one]
      rw [if_pos (by omega)]
      congr 1
      rw [show ((b:Int) - (k:Int)).toNat = b - k by omega,show ((c:Int) - (k:Int)).toNat = c - k by omega]
    · rw [if_neg (by omega),hp]; rfl
  | op z =>
    have hc':z = 1:=hc
    subst hc'
    refine ⟨⟨a.map fun p=>(p.1,p.2 + k),b - k,.op 1⟩,fun R K=>?_,main _ _ fun p hp hkl=>by rw [hp]; rfl,rfl⟩
    simp only [slOf,Option.getD_none,Option.getD_some,Option.isSome_none,Bool.false_and,Bool.false_eq_true,if_false,if_true,Int.toNat_natCast,Nat.mul_one]
    rw [if_pos (by omega)]
    congr 1
    rw [show ((b:Int) - (k:Int)).toNat = b - k by omega]
theorem bs_empty {H:Heap} {s:Sl} (h:s.len = 0):BS H s []:=⟨h,by unfold slCells; rw [if_pos (by rw [h])]; rfl⟩
theorem splice_in {vs l:List V} {off j:Nat} (ho:off + l.length ≤ vs.length) (hj:j < l.length):(splice vs off l)[off + j]? = l[j]?:=by
  unfold splice
  rw [List.append_assoc,List.getElem?_append_right (by simp; omega),List.length_take,Nat.min_eq_left (by omega),Nat.add_sub_cancel_left,List.getElem?_append_left hj]
theorem splice_out {vs l:List V} {off j:Nat} (ho:off + l.length ≤ vs.length) (hj:j < off):(splice vs off l)[j]? = vs[j]?:=by
  unfold splice
  rw [List.append_assoc,List.getElem?_append_left (by simp; omega),List.getElem?_take_of_lt hj]
theorem splice_len {vs l:List V} {off:Nat} (ho:off + l.length ≤ vs.length):(splice vs off l).length = vs.length:=by
  unfold splice; simp; omega
theorem zeros45 (n:Nat):∃ vs,zeroCellsV Try.prog 45 n = some vs∧vs.length = n * 4:=by
  have h1:Try.prog.cellsOf 45 = 4:=by kernel_rfl
  have h2:(zeroV Try.prog 45).map (fun z=>z.cells.length) = some 4:=by kernel_rfl
  unfold zeroCellsV
  rw [h1]
  split
  · exact ⟨[],rfl,by simp; omega⟩
  · cases hz:zeroV Try.prog 45 with
    | none=>rw [hz] at h2; cases h2
    | some z =>
      rw [hz] at h2
      have h3:z.cells.length = 4:=by simpa using h2
      refine ⟨(List.replicate n z.cells).flatten,by simp [h3],?_⟩
      simp [h3]
/-- how many parts -/
def cnt (n m:Nat):Nat:=if (n + m - 1) / m > 1 then (n + m - 1) / m else 1
theorem cnt_i {n:Nat} {m:Int} (hm:1 ≤ m∧m ≤ 256) (hn:n ≤ 5000):(if (IntKind.wrap .i64 (Int.tdiv (IntKind.wrap .i64 ((IntKind.wrap .i64 (((n:Nat):Int) + m)) - (1:Int))) m)) > (1:Int) then (IntKind.wrap .i64 (Int.tdiv (IntKind.wrap .i64 ((IntKind.wrap .i64 (((n:Nat):Int) + m)) - (1:Int))) m)) else (1:Int)) = ((cnt n m.toNat:Nat):Int):=by
  obtain ⟨k,rfl⟩:=Int.eq_ofNat_of_zero_le (show 0 ≤ m by omega)
  have e1:IntKind.wrap .i64 ((n:Int) + (k:Int)) = (n:Int) + k:=w64 (by omega)
  have e2:IntKind.wrap .i64 ((n:Int) + (k:Int) - 1) = ((n + k - 1:Nat):Int):=by rw [w64 (by omega)]; omega
  have e3:Int.tdiv ((n + k - 1:Nat):Int) (k:Int) = (((n + k - 1) / k:Nat):Int):=rfl
  have hle:(n + k - 1) / k ≤ n + k - 1:=Nat.div_le_self _ _
  rw [e1,e2,e3,Int.toNat_natCast]
  unfold cnt
  have hsm:n + k - 1 ≤ 6000:=by omega
  generalize (n + k - 1) / k = Q at *
  have e4:IntKind.wrap .i64 (Q:Int) = (Q:Int):=w64 (by omega)
  rw [e4]
  split <;> split <;> omega
theorem cnt_pos (n m:Nat):1 ≤ cnt n m:=by unfold cnt; split <;> omega
/-- what a part holds -/
def part (r:Int) (d:List Int) (m N i:Nat):Sg:=⟨r,decide (i = 0),(N:Int) - 1 - i,(d.drop (i * m)).take m⟩
theorem cnt_le {n m i:Nat} (hm:1 ≤ m) (hi:i < cnt n m):i * m ≤ n:=by
  unfold cnt at hi
  by_cases h:i = 0
  · subst h; simp
  have h1:i < (n + m - 1) / m:=by split at hi <;> omega
  have h2:(i + 1) * m ≤ n + m - 1:=(Nat.le_div_iff_mul_le (by omega)).1 (by omega)
  rw [Nat.succ_mul] at h2
  omega
theorem cnt_end {n m:Nat} (hm:1 ≤ m):n ≤ cnt n m * m:=by
  unfold cnt
  have h:=Nat.lt_div_mul_add (a:=n + m - 1) (b:=m) (by omega)
  generalize (n + m - 1) / m = Q at *
  split
  · generalize Q * m = W at *
    omega
  · rename_i hx
    by_cases h4:Q = 0
    · subst h4; omega
    · have:Q = 1:=by omega
      subst this; omega
/-- row i stands in the object q -/
structure Row (H:Heap) (q:Nat) (u:Sg) (i:Nat) (s:Sl):Prop where
  bs:BS H s u.d
  cap:s.cap = .ex s.len
  off:u.d = [] ∨ ∀ o,s.a ≠ some (q,o)
  at_:∃ vs,H.get q = some (.cells vs 45 false)∧i * 4 + 4 ≤ vs.length∧∀ j,j < 4→vs[i * 4 + j]? = (u.cells s)[j]?
theorem Row.ext {H G:Heap} {q i:Nat} {u:Sg} {s:Sl} (h:Row H q u i s) (hw:H.Wf) (hx:Ext H G):Row G q u i s:=by
  obtain ⟨vs,h1,h2,h3⟩:=h.at_
  exact ⟨h.bs.ext hw hx,h.cap,h.off,vs,hx.get hw h1,h2,h3⟩
theorem Row.ld {H:Heap} {q i:Nat} {u:Sg} {s:Sl} (h:Row H q u i s):H.ldI .u32 q (0 + i * 4 + 0) = some u.r∧H.ldB q (0 + i * 4 + 1) = some u.f∧H.ldI .u8 q (0 + i * 4 + 2) = some u.l∧H.ldSl q (0 + i * 4 + 3) = some s:=by
  obtain ⟨vs,h1,h2,h3⟩:=h.at_
  simp only [Nat.zero_add]
  exact ⟨ldI_of h1 (h3 0 (by omega)),ldB_of h1 (h3 1 (by omega)),ldI_of h1 (h3 2 (by omega)),ldSl_of h1 (h3 3 (by omega))⟩
def Up (n:Nat) (d:List Int) (s:Sl):Prop:=d = [] ∨ ∀ q,s.a = some q→n ≤ q.1
theorem s18 {H : Heap} (hw : H.Wf) {r : Int} {t : Sl} {d : List Int} {m : Int} (hd : BS H t d) (hc : CapOk t) (hl : d.length ≤ 5000) (hm : 1 ≤ m ∧ m ≤ 256) (h16 : cnt d.length m.toNat ≤ 16) :
    ∃ q H',(∀ (R:Type) (K:Sl→Int→Heap→Option R),g18 R r t m H K = K ⟨some (q,0),cnt d.length m.toNat,.ex (cnt d.length m.toNat)⟩ 0 H')∧(∀ i,i < cnt d.length m.toNat→∃ s,Row H' q (part r d m.toNat (cnt d.length m.toNat) i) i s∧Up H.next (part r d m.toNat (cnt d.length m.toNat) i).d s)∧Ext H H'∧H'.Wf∧H.next ≤ q:=by
  have hn:t.len = d.length:=hd.len
  have hcnt:=cnt_i hm hl
  have hp:=cnt_pos d.length m.toNat
  have hle:=fun i hi=>@cnt_le d.length m.toNat i (by omega) hi
  obtain ⟨vs0,z1,z2⟩:=zeros45 (cnt d.length m.toNat)
  generalize hN:cnt d.length m.toNat = N at *
  have hmm:((m.toNat:Nat):Int) = m:=by omega
  generalize hmn:m.toNat = mn at *
  have hw1:=hw.new (.cells vs0 45 false)
  have x1:=Ext.new H (.cells vs0 45 false)
  have g1:=Heap.gnew H (.cells vs0 45 false)
  obtain ⟨rr,H',e,rfl,k1,k2,k3⟩:=tlim_inv (b:=g18_p2_b) (fun st G=>∃ k:Nat,st = (r,t,m,(N:Int),⟨some (H.next,0),N,.ex N⟩,(N:Int),(k:Int))∧k ≤ N∧Ext H G∧G.Wf∧(∃ vs,G.get H.next = some (.cells vs 45 false)∧vs.length = N * 4)∧∀ i,i < k→∃ s,Row G H.next (part r d mn N i) i s∧Up H.next (part r d mn N i).d s) (fun st=>N - st.2.2.2.2.2.2.toNat)
    (fun rr G=>rr = ⟨some (H.next,0),N,.ex N⟩∧Ext H G∧G.Wf∧∀ i,i < N→∃ s,Row G H.next (part r d mn N i) i s∧Up H.next (part r d mn N i).d s) (by
      rintro st G ⟨k,rfl,hk,hx,hwG,⟨vs,hg,hv⟩,hrow⟩
      by_cases hkN:k < N
      · left
        have hkm:=hle k hkN
        have hk1:k * mn ≤ 4096:=Nat.mul_le_mul (show k ≤ 16 by omega) (show mn ≤ 256 by omega)
        have em:(k:Int) * m = ((k * mn:Nat):Int):=by rw [← hmm,Int.natCast_mul]
        have em2:((k:Int) + 1) * m = ((k * mn + mn:Nat):Int):=by rw [Int.add_mul,em,Int.one_mul,← hmm]; rfl
        have wa:IntKind.wrap .i64 ((k:Int) * m) = ((k * mn:Nat):Int):=by rw [em]; exact w64 (by omega)
        have wk:IntKind.wrap .i64 ((k:Int) + 1) = ((k + 1:Nat):Int):=by rw [w64 (by omega)]; rfl
        have wb:IntKind.wrap .i64 ((IntKind.wrap .i64 ((k:Int) + 1)) * m) = ((k * mn + mn:Nat):Int):=by
          rw [wk,show ((k + 1:Nat):Int) = (k:Int) + 1 from rfl,em2]; exact w64 (by omega)
        have wmin:(if ((t.len:Nat):Int) < ((k * mn + mn:Nat):Int) then ((t.len:Nat):Int) else ((k * mn + mn:Nat):Int)) = ((min d.length (k * mn + mn):Nat):Int):=by split <;> omega
        obtain ⟨s7,e7,bs7,c7⟩:=slOf_mid hc (hd.ext hw hx) (k:=k * mn) (b:=min d.length (k * mn + mn)) (by omega) (by omega)
        have hpart:(d.drop (k * mn)).take (min d.length (k * mn + mn) - k * mn) = (d.drop (k * mn)).take mn:=by
          by_cases hh:d.length ≤ k * mn + mn
          · rw [List.take_of_length_le (by simp; omega),List.take_of_length_le (by simp; omega)]
          · rw [show min d.length (k * mn + mn) - k * mn = mn by omega]
        rw [hpart] at bs7
        obtain ⟨s8,H8,e8,c8⟩:=bclone_ok hwG bs7 (by simp; omega)
        have e9:=fun (R:Type) K=>clip_ok (R:=R) c8.cap H8 K
        have hg8:=c8.ext.get hwG hg
        have wl:IntKind.wrap .u8 (IntKind.wrap .i64 ((IntKind.wrap .i64 ((N:Int) - 1)) - (k:Int))) = (N:Int) - 1 - k:=by
          rw [w64 (n:=(N:Int) - 1) (by omega),w64 (by omega),w8u (by omega)]
        have hlen4:((part r d mn N k).cells ⟨s8.a,s8.len,.ex s8.len⟩).length = 4:=rfl
        have p:=sts_of (off:=0 + k * 4) (l:=(part r d mn N k).cells ⟨s8.a,s8.len,.ex s8.len⟩) hg8 (by rw [hlen4]; omega) (by simp [Sg.cells,V.one])
        rw [Nat.zero_add] at p
        have hnx:H.next < G.next:=hwG _ _ hg
        have hoff8:(part r d mn N k).d = [] ∨ ∀ o,s8.a ≠ some (H.next,o):=by
          rcases c8.own with e | ⟨id',e1,e2,e3⟩
          · exact .inl e
          · right; intro o ho; rw [e1] at ho; cases ho; omega
        have put_bs:∀ {l:List Int} {s:Sl} {o:O},BS H8 s l→(l = [] ∨ ∀ o,s.a ≠ some (H.next,o))→BS (H8.put H.next o) s l:=fun {l s o} hb ho=>by
          rcases ho with e | hne
          · subst e; exact bs_empty hb.len
          · refine hb.mono fun id off o' hid ho'=>?_
            rw [Heap.get_put,if_neg (by rintro rfl; exact hne _ hid)]; exact ho'
        refine ⟨(r,t,m,(N:Int),⟨some (H.next,0),N,.ex N⟩,(N:Int),((k + 1:Nat):Int)),H8.put H.next (.cells (splice vs (k * 4) ((part r d mn N k).cells ⟨s8.a,s8.len,.ex s8.len⟩)) 45 false),?_,⟨k + 1,rfl,by omega,(hx.trans c8.ext).above (Nat.le_refl _) _,c8.wf.put hg8 _,⟨_,Heap.gput _ _ _,by rw [splice_len (by rw [hlen4]; omega)]; exact hv⟩,fun i hi=>?_⟩,by dsimp only; omega⟩
        · simp only [g18_p2_b,g18_p1]
          rw [show decide ((k:Int) < (N:Int)) = true by simp; omega,sel_true,wb,wmin,wa,e7,e8,e9]
          rw [if_pos (by omega),wl,Option.bind_some,Int.toNat_natCast]
          simp only [Nat.zero_add]
          rw [show [V.i IntKind.u32 r,V.b ((k:Int) == 0),V.i IntKind.u8 ((N:Int) - 1 - k),V.sl ⟨s8.a,s8.len,.ex s8.len⟩] = (part r d mn N k).cells ⟨s8.a,s8.len,.ex s8.len⟩ by
            simp only [Sg.cells,part]
            by_cases h0:k = 0
            · subst h0; rfl
            · rw [show ((k:Int) == 0) = false by simpa using h0,show decide (k = 0) = false by simpa using h0]]
          rw [p,Option.bind_some,wk]
        · by_cases hik:i = k
          · subst hik
            refine ⟨⟨s8.a,s8.len,.ex s8.len⟩,⟨put_bs (c8.bs.clipped) hoff8,rfl,hoff8,_,Heap.gput _ _ _,by rw [splice_len (by rw [hlen4]; omega)]; omega,fun j hj=>splice_in (by rw [hlen4]; omega) (by rw [hlen4]; exact hj)⟩,?_⟩
            rcases c8.own with e | ⟨id',e1,e2,e3⟩
            · exact .inl e
            · right; intro q hq; have hq':s8.a = some q:=hq; rw [e1] at hq'; cases hq'; have:=hx.next; omega
          · obtain ⟨s,hr,hup⟩:=hrow i (by omega)
            have hr8:=hr.ext hwG c8.ext
            obtain ⟨vs',q1,q2,q3⟩:=hr8.at_
            rw [hg8] at q1
            cases q1
            exact ⟨s,⟨put_bs hr8.bs hr8.off,hr8.cap,hr8.off,_,Heap.gput _ _ _,by rw [splice_len (by rw [hlen4]; omega)]; omega,fun j hj=>by rw [splice_out (by rw [hlen4]; omega) (by omega)]; exact q3 j hj⟩,hup⟩
      · right
        refine ⟨⟨some (H.next,0),N,.ex N⟩,G,?_,rfl,hx,hwG,fun i hi=>hrow i (by omega)⟩
        simp only [g18_p2_b,g18_p1]
        rw [show decide ((k:Int) < (N:Int)) = false by simp; omega,sel_false]) (r,t,m,(N:Int),⟨some (H.next,0),N,.ex N⟩,(N:Int),0) (H.new (.cells vs0 45 false)) ⟨0,rfl,by omega,x1,hw1,⟨vs0,g1,z2⟩,fun i hi=>by omega⟩
  refine ⟨H.next,H',fun R K=>?_,k3,k1,k2,Nat.le_refl _⟩
  have c0:0 ≤ (N:Int)∧(N:Int) ≤ (N:Int)∧(N:Int) ≤ 9223372036854775807:=by omega
  have dd:g18 R r t m H K = g18_p6 R r t m H K:=rfl
  rw [dd]
  unfold g18_p6 g18_p0
  rw [hn,hcnt]
  rw [show decide (m < 1) = false by simp; omega,sel_false,show decide (m > 256) = false by simp; omega,sel_false,if_neg (by omega),show decide ((N:Int) > 16) = false by simp; omega,sel_false]
  rw [Int.toNat_natCast,z1]
  simp only [Option.bind_some,alo]
  rw [if_pos (by omega)]
  simp only [g18_p5,g18_p3,g18_p2,e,Option.bind_some,g18_p4]
end Go.Proofs.Ytobebcfkddimkaa


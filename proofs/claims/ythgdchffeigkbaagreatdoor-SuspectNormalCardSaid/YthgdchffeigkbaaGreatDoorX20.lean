import Derived.Test.YthgdchffeigkbaaGreatDoorX16
import Derived.Test.YthgdchffeigkbaaGreatDoorX18
set_option linter.unusedVariables false
set_option linter.unusedSimpArgs false
namespace Go.Proofs.YthgdchffeigkbaaGreatDoor
set_option maxHeartbeats 8000000
set_option maxRecDepth 100000
section
open Go.ChangeShapes Go.WideShapes Go.ChangeAt Go.RowKit
attribute [local go_sem ↓] aE
attribute [local go_sem] aK aH aM aY
def gQ (b:Br):Rat:=Rat.divInt 1000000 (b.x*b.tap)
def nI (b:Br):Rat:=gQ b*Rat.divInt (-b.shift) 1000
def jH (x:bE):List Nat:=(xZ x).map Int.toNat
def aA (x:bE):List Nat:=kE (iB (jH x)) (aI x)
def gV (x:bE):List Nat:=(NJ x).map Prod.fst
def B7 (x:bE):List Nat:=(NJ x).map Prod.snd
def mB (x:bE):List Rat:=x.brs.map gQ
def mC (x:bE):List Rat:=x.brs.map nI
def fA (A:List (List Rat)) (i j:Nat) (q:Rat):List (List Rat):=A.set i ((A.getD i []).set j (vf (A.getD i []) j+q))
def XJ (free:List Nat) (u:Nat):Option Nat:=free.findIdx? (· == u)
def kL (free:List Nat) (A:List (List Rat)) (b:Rat) (u v:Nat):List (List Rat):=
 if u=v then A else
  match XJ free u,XJ free v with
  | none,none=>A
  | some i,none=>fA A i i b
  | none,some j=>fA A j j b
  | some i,some j=>fA (fA (fA (fA A i i b) j j b) i j (-b)) j i (-b)
def RS (free:List Nat):List Rat->List Nat->List Nat->List (List Rat)->List (List Rat)
 | b::bs,u::us,v::vs,A=>RS free bs us vs (kL free A b u v)
 | _,_,_,A=>A
def pZ (n:Nat):List (List Rat):=List.replicate n (List.replicate n 0)
def JN (x:bE):List (List Rat):=RS (aA x) (mB x) (gV x) (B7 x) (pZ (aA x).length)
def aDF (x:bE):List (List Rat):=(lD (gN (JN x)) (aA x).length).1.map (List.drop (aA x).length)
def aDE (x:bE):Prop:=¬(lD (gN (JN x)) (aA x).length).2.length<(aA x).length
theorem LW {A:List (List Rat)} {i j:Nat} {q:Rat}:(fA A i j q).length=A.length:=by unfold fA;rw [lF]
theorem hZ {A:List (List Rat)} {i j:Nat} {q:Rat} {a:List Rat} (h:A[i]?=some a):fA A i j q=A.set i (a.set j (vf a j+q)):=by
 unfold fA;rw [eY,h];rfl
theorem LV {A:List (List Rat)} {i j n:Nat} {q:Rat} (h:∀ a∈A,a.length=n) (hi:i<A.length):∀ a∈fA A i j q,a.length=n:=fun a ha=>by
 obtain ⟨r,hr⟩:∃ r,A[i]?=some r:=⟨_,jA hi⟩;rw [hZ hr] at ha;rcases List.mem_or_eq_of_mem_set ha with h1 | h1
 ·exact h a h1
 ·rw [h1,lF];exact h r (cO hr)
theorem aFv {A:List (List Rat)} {i j K n:Nat} {q:Rat} (h:Bd K A) (hi:i<A.length) (hw:∀ a∈A,a.length=n) (hj:j<n) (hq:bU q<=1):Bd (K+2) (fA A i j q):=fun a ha x hx=>by
 obtain ⟨r,hr⟩:∃ r,A[i]?=some r:=⟨_,jA hi⟩;rw [hZ hr] at ha;rcases List.mem_or_eq_of_mem_set ha with h1 | h1
 ·exact cV (h a h1 x hx) (by omega)
 ·rw [h1] at hx
  rcases List.mem_or_eq_of_mem_set hx with h2 | h2
  ·exact cV (h r (cO hr) x h2) (by omega)
  ·have h3:=h.vf hr (j:=j) (by rw [hw r (cO hr)];exact hj)
   have h4:=kM (vf r j) q;rw [h2];omega
theorem BU {free:List Nat} {u i:Nat} (h:XJ free u=some i):i<free.length/\free[i]?=some u:=by
 unfold XJ at h;rw [List.findIdx?_eq_some_iff_getElem] at h;obtain ⟨h1,h2,_⟩:=h;refine ⟨h1,?_⟩;rw [jA h1];simpa using h2
theorem aLn {free:List Nat} {u v i j:Nat} (h:XJ free u=some i) (h2:XJ free v=some j) (cP:u≠v):i≠j:=by
 rintro rfl;have a:=(BU h).2;have b:=(BU h2).2;rw [a] at b;injection b with b;exact cP b
structure kA (n K:Nat) (A:List (List Rat)):Prop where
 len:A.length=n
 wid:∀ a∈A,a.length=n
 bd:Bd K A
theorem kA.add {n K i j:Nat} {A:List (List Rat)} {q:Rat} (h:kA n K A) (hi:i<n) (hj:j<n) (hq:bU q<=1):kA n (K+2) (fA A i j q):=
 ⟨LW.trans h.len,LV h.wid (by rw [h.len];exact hi),aFv h.bd (by rw [h.len];exact hi) h.wid hj hq⟩
theorem kA.mono {n K K':Nat} {A:List (List Rat)} (h:kA n K A) (hk:K<=K'):kA n K' A:=⟨h.len,h.wid,h.bd.mono hk⟩
theorem YV (n:Nat):kA n 3 (pZ n):=by
 unfold pZ;refine ⟨o3,fun a ha=>by rw [(List.mem_replicate.1 ha).2,o3],fun a ha x hx=>?_⟩;rw [(List.mem_replicate.1 ha).2] at hx;rw [(List.mem_replicate.1 hx).2];decide+kernel
theorem yW {b:Br} (h:b.bad=false):bU (gQ b)<=1:=by
 have h1:1<=b.x/\b.x<=10000/\500<=b.tap/\b.tap<=1500:=by
  unfold Br.bad at h;simp only [Bool.or_eq_false_iff] at h;obtain ⟨⟨⟨⟨⟨a1,a2⟩,_⟩,_⟩,_⟩,_⟩:=h;unfold kO at a1 a2;have:=of_decide_eq_false a1;have:=of_decide_eq_false a2;omega
 obtain ⟨k,hk⟩:∃ k:Nat,b.x*b.tap=(k:Int):=⟨(b.x*b.tap).toNat,(Int.toNat_of_nonneg (Int.mul_nonneg (by omega) (by omega))).symm⟩;have X7:b.x*b.tap<=10000*1500:=Int.mul_le_mul h1.2.1 h1.2.2.2 (by omega) (by omega);have AW:1*500<=b.x*b.tap:=Int.mul_le_mul h1.1 h1.2.2.1 (by omega) (by omega);have kF:k≠0:=by omega
 unfold gQ bU;rw [hk,(mP 1000000 kF).2,(rM 1000000 kF).1];refine Nat.max_le.2 ⟨jV ?_,jV ?_⟩
 ·refine WT (Nat.div_le_self ..) ?_
  show _<4294967296^1;decide
 ·refine WT (Nat.div_le_self ..) ?_
  show _<4294967296^1;omega
theorem aAp (A:OA) (n c:Nat) (zs:List Int) (z:Int) (w:Wo) (hr:nL w w.heap.size A n zs) (hn:n<=9223372036854775807) :
    Calls Tryz.prog 158 #[.slice A n c,.int .i64 z] w fun e w'=>e=.returned (.int .i64 (gD (fun x=>decide (z=x)) zs 0))/\w=w':=by
 have eC:=lH hr.len;go_enter Tryz.func158,Tryz.ntmps158
 go_wp2_with fail
 go_loop [5,8] (fun _ i=>∃ k:Nat,k<=n/\i=.int .i64 k/\gD (fun x=>decide (z=x)) zs 0=gD (fun x=>decide (z=x)) (zs.drop k) k) (fun _ i=>n-(intOf i).toNat)
 case atStart=>exact ⟨0,by omega,rfl,rfl⟩
 case round=>
  obtain ⟨k,hk,rfl,z_⟩:=hrel;have tC:=lH z_;clear z_
  by_cases aW:k<n
  ·obtain ⟨y,hy⟩:∃ y,zs[k]?=some y:=eO (by have:=eC.out;omega)
   obtain ⟨b,off,rfl,QO,-⟩:=hr.2 (by omega);have nX:=hr.at_ hy;have HZ:=lH (cM hy);clear hy
   by_cases hp:z=y
   ·subst hp
    go_wp2_with fail
    go_ret;exact ⟨aX (by rw [tC.o,HZ.o];simp [gD]),rfl⟩
   ·have HP:=lH hp
    go_wp2_with fail
    go_round
    case rel=>exact ⟨k+1,by omega,by go_num,by rw [tC.o,HZ.o];simp [gD,HP.o]⟩
    case measure=>simp [intOf];omega
  ·have hd:zs.drop k=[]:=by rw [List.drop_eq_nil_iff];have:=eC.out;omega
   have HD:=lH hd;clear hd
   go_wp2_with fail
   go_ret;exact ⟨aX (by rw [tC.o,HD.o];rfl),rfl⟩
def BX (o:Option Nat):Int:=match o with | none=>-1 | some i=>(i:Int)
theorem aAq (free:List Nat) (u:Nat):gD (fun x=>decide ((u:Int)=x)) (dZ free) 0=BX (XJ free u):=by
 have key:∀ (l:List Nat) (k:Nat),gD (fun x=>decide ((u:Int)=x)) (dZ l) k=BX ((l.findIdx? (· == u)).map (·+k)):=by
  intro l
  induction l with
  | nil=>intro k;rfl
  | cons a r ih=>
   intro k;rw [List.findIdx?_cons];show (if decide ((u:Int)=(a:Int)) then (k:Int) else gD _ (dZ r) (k+1))=_
   by_cases h:u=a
   ·subst h;simp [BX]
   ·have h1:¬((u:Int)=(a:Int)):=by omega
    have h2:(a == u)=false:=by simp;omega
    rw [decide_eq_false h1,ih (k+1),h2];simp only [Bool.false_eq_true,if_false];congr 1
    rw [Option.map_map];congr 1
    funext i
    simp;omega
 have:=key free 0;rw [this];unfold XJ;congr 1
 cases free.findIdx? (· == u)<;>simp
structure iZ where
 A0:OA
 n0:Nat
 c0:Nat
 A1:OA
 n1:Nat
 c1:Nat
 A2:OA
 n2:Nat
 c2:Nat
 A3:OA
 n3:Nat
 c3:Nat
 A4:OA
 n4:Nat
 c4:Nat
 A5:OA
 n5:Nat
 c5:Nat
 A6:OA
 n6:Nat
 c6:Nat
def iZ.cells (m:iZ) (v:Value):Array Value:=#[.slice m.A0 m.n0 m.c0,.slice m.A1 m.n1 m.c1,.slice m.A2 m.n2 m.c2,.slice m.A3 m.n3 m.c3,.slice m.A4 m.n4 m.c4,.slice m.A5 m.n5 m.c5,.slice m.A6 m.n6 m.c6,v]
structure fG (w:Wo) (B:Nat) (m:iZ) (x:bE):Prop where
 r0:nL w B m.A0 m.n0 (nJ x)
 r1:nL w B m.A1 m.n1 (xZ x)
 r2:nL w B m.A2 m.n2 (dZ (gV x))
 r3:nL w B m.A3 m.n3 (dZ (B7 x))
 r4:iF w B m.A4 m.n4 (mB x)
 r5:iF w B m.A5 m.n5 (mC x)
 r6:nL w B m.A6 m.n6 (dZ (aA x))
section
variable {w w':Wo} {B B':Nat} {m:iZ} {x:bE}
theorem fG.below (r:fG w B m x) (hb:Below B' w w') (h:B<=B'):fG w' B m x:=⟨r.r0.below hb h,r.r1.below hb h,r.r2.below hb h,r.r3.below hb h,r.r4.below hb h,r.r5.below hb h,r.r6.below hb h⟩
theorem fG.more (r:fG w B m x) (h:B<=B'):fG w B' m x:=⟨r.r0.more h,r.r1.more h,r.r2.more h,r.r3.more h,r.r4.more h,r.r5.more h,r.r6.more h⟩
theorem fG.up (r:fG w w.heap.size m x) (hb:Below w.heap.size w w'):fG w' w'.heap.size m x:=(r.below hb lR).more hb.size
end
theorem gU (l:List Nat):(dZ l).length=l.length:=by unfold dZ;rw [lB]
theorem iT {l:List Nat} {i u:Nat} (h:l[i]?=some u):(dZ l)[i]?=some (u:Int):=by unfold dZ;rw [kI,h];rfl
theorem oR (x:bE):(gV x).length=x.brs.length:=by unfold gV NJ;rw [lB,lB]
theorem wB (x:bE):(B7 x).length=x.brs.length:=by unfold B7 NJ;rw [lB,lB]
theorem qV (x:bE):(mB x).length=x.brs.length:=by unfold mB;rw [lB]
theorem aDG (x:bE):(mC x).length=x.brs.length:=by unfold mC;rw [lB]
theorem Z_ (g:Nat) (m:iZ) (v:Value) (free:List Nat) (u:Nat) (w:Wo) (hb:aG w g 122 (m.cells v)) (hr:nL w w.heap.size m.A6 m.n6 (dZ free)) (hn:m.n6<=9223372036854775807) :
    Calls Tryz.prog 127 #[.pointer (some ⟨g,0,none⟩),.int .i64 (u:Int)] w fun e w'=>e=.returned (.int .i64 (BX (XJ free u)))/\w=w':=by
 have c6:=hb.cell 6;have hl:=hb.lt;have HC:=lH (aAp m.A6 m.n6 m.c6 (dZ free) (u:Int) w hr hn);rw [aAq] at HC;obtain ⟨A0,n0,c0,A1,n1,c1,A2,n2,c2,A3,n3,c3,A4,n4,c4,A5,n5,c5,A6,n6,k6⟩:=m;simp only [iZ.cells] at c6 HC;clear hb hr;go_enter Tryz.func127,Tryz.ntmps127
 go_wp2_with fail
 refine HC.o.mono ?_;rintro e w' ⟨rfl,rfl⟩
 go_wp2_with fail
 go_ret;exact ⟨rfl,rfl⟩
theorem WS {w:Wo} {base g gz n:Nat} {v:Rv} (hb:aG w gz 115 (fS (List.replicate n v)).toArray) (hv:dL w w.heap.size 0 v) (h1:base<=gz) (h2:gz≠g) (hn:n<=1000000):sB w base g ⟨some ⟨gz,0,none⟩,gz,n,List.replicate n v⟩ (List.replicate n 0):=
 ⟨by simp,by simp,by simp only [maxLen];omega,aCV hv,fun _=>⟨rfl,h1,h2,_,hb,by rw [o3];show (fS (List.replicate n v)).take (n*4)=_;rw [nW (by rw [d9,o3];exact lR)]⟩⟩
theorem WQ {n k:Nat} (hk:k<n):((pZ n).take k++List.replicate (n-k) []).set k (List.replicate n 0)=(pZ n).take (k+1)++List.replicate (n-(k+1)) []:=
 GZ (by unfold pZ;rw [o3]) (by unfold pZ;rw [List.getElem?_replicate,if_pos hk])
theorem fG.bm {w w':Wo} {m:iZ} {x:bE} (r:fG w w.heap.size m x) (g:Below w.heap.size w w'):fG w' w'.heap.size m x:=(r.below g lR).more g.size
theorem xW {m:iZ} {A:OA} {n c i:Nat} {u:Value} (h:(m.cells (.slice A n c))[i]?=some u):∃ A' n' c',u=.slice A' n' c':=by
 have h2:u∈(m.cells (.slice A n c)).toList:=Array.mem_toList_iff.2 (Array.mem_of_getElem? h);simp only [iZ.cells,List.mem_cons,List.not_mem_nil,or_false] at h2;rcases h2 with rfl | rfl | rfl | rfl | rfl | rfl | rfl | rfl<;>exact ⟨_,_,_,rfl⟩
section
variable {w:Wo} {g T:Nat} {m:iZ} {A:OA} {k c:Nat}
theorem nL.keepm {B n:Nat} {A0:OA} {zs:List Int} (h:nL w B A0 n zs) (hb:aG w g T (m.cells (.slice A k c))) (i:Nat) (u:Value):nL (w.setCell ⟨g,i,none⟩ u) B A0 n zs:=by
 refine ⟨h.1,fun hn=>?_⟩;obtain ⟨b,off,e,aW,hc⟩:=h.2 hn;refine ⟨b,off,e,aW,fun j v hv=>?_⟩;have h1:=hc j v hv;rw [World.cell?_setCell_other]
 ·exact h1
 ·rintro e2
  injection e2 with e2;subst e2;rw [hb.cell] at h1;obtain ⟨A',n',c',rfl⟩:=xW h1;unfold ints at hv;rw [kI] at hv;obtain ⟨z,_,hz⟩:=Option.map_eq_some_iff.1 hv;cases hz
theorem dL.keepm {q:Rat} {x:Rv} (h:dL w w.heap.size q x) (hb:aG w g T (m.cells (.slice A k c))) {i:Nat} (hi:i<8) (u:Value):dL (w.setCell ⟨g,i,none⟩ u) (w.setCell ⟨g,i,none⟩ u).heap.size q x:=by
 obtain ⟨y,hy⟩:∃ y,(m.cells (.slice A k c))[i]?=some y:=⟨_,Array.getElem?_eq_getElem (by show i<8;exact hi)⟩;obtain ⟨A',n',c',rfl⟩:=xW hy;have h0:dE w w.heap.size q x.b1 x.A x.n x.c x.b2 x.A2 x.m x.d:=h;exact dE.keep h0 (v:=.slice A' n' c') (by rw [hb.cell];exact hy) (fun a b e=>by cases e) u
theorem iF.keepm {n:Nat} {A0:OA} {qs:List Rat} (h:iF w w.heap.size A0 n qs) (hb:aG w g T (m.cells (.slice A k c))) {i:Nat} (hi:i<8) (u:Value):iF (w.setCell ⟨g,i,none⟩ u) (w.setCell ⟨g,i,none⟩ u).heap.size A0 n qs:=by
 obtain ⟨vs,h1,h2,h3,h4⟩:=h;refine ⟨vs,h1,h2,⟨h3.1,fun hn=>?_⟩,fun j q v hq hv=>(h4 j q v hq hv).keepm hb hi u⟩;obtain ⟨b,off,e,aW,hc⟩:=h3.2 hn;have hbg:b≠g:=by
  rintro rfl;obtain ⟨v,hv⟩:∃ v,vs[0]?=some v:=eO (by omega);have:=hc 0 (.bool v.b1) (by have h5:=uH hv 0 (by decide);simpa [Rv.cells] using h5);rw [Nat.add_zero,hb.cell] at this;obtain ⟨A',n',c',e⟩:=xW this;cases e
 refine ⟨b,off,e,by simpa [World.setCell] using aW,fun j v hv=>?_⟩;rw [World.cell?_setCell_other _ _ _ _ (fun e2=>hbg (by injection e2 with e2;exact e2.symm))];exact hc j v hv
theorem jZ.keepm {n:Nat} {A0:OA} {M:List (List Rat)} (h:jZ w w.heap.size A0 n M) (hb:aG w g T (m.cells (.slice A k c))) (hA:∀ b off,A0=some ⟨b,off,none⟩->b≠g) {i:Nat} (hi:i<8) (u:Value):jZ (w.setCell ⟨g,i,none⟩ u) (w.setCell ⟨g,i,none⟩ u).heap.size A0 n M:=by
 obtain ⟨hs,h1,h2,h3,h4⟩:=h;refine ⟨hs,h1,h2,⟨h3.1,fun hn=>?_⟩,fun j z q hz hq=>⟨(h4 j z q hz hq).1.keepm hb hi u,(h4 j z q hz hq).2⟩⟩;obtain ⟨b,off,e,aW,hc⟩:=h3.2 hn;refine ⟨b,off,e,by simpa [World.setCell] using aW,fun j v hv=>?_⟩;rw [World.cell?_setCell_other _ _ _ _ (fun e2=>hA b off e (by injection e2 with e2;exact e2.symm))];exact hc j v hv
theorem fG.keepm {m':iZ} {x:bE} (h:fG w w.heap.size m' x) (hb:aG w g T (m.cells (.slice A k c))) {i:Nat} (hi:i<8) (u:Value):fG (w.setCell ⟨g,i,none⟩ u) (w.setCell ⟨g,i,none⟩ u).heap.size m' x:=by
 have hs:(w.setCell ⟨g,i,none⟩ u).heap.size=w.heap.size:=by simp [World.setCell]
 refine ⟨?_,?_,?_,?_,h.r4.keepm hb hi u,h.r5.keepm hb hi u,?_⟩<;>rw [hs]
 ·exact h.r0.keepm hb i u
 ·exact h.r1.keepm hb i u
 ·exact h.r2.keepm hb i u
 ·exact h.r3.keepm hb i u
 ·exact h.r6.keepm hb i u
end
theorem i_.keepv {B0 g:Nat} {w0 wr:Wo} {v:Value} {piv:List Nat} {hs:List Mh} {L:List (List Rat)} (m:i_ B0 g w0 wr v piv hs L) {i j:Nat} {h:Mh} {q:List Rat} {x u:Rv} {z:Rat} (hh:hs[i]?=some h) (hq:L[i]?=some q) (hj:j<q.length) (hu:dL wr wr.heap.size z u):dL (gB wr h.g j x) (gB wr h.g j x).heap.size z u:=by
 have hr:=m.own.row i h q hh hq;obtain ⟨h1,h2,h3,cs,h4,h5⟩:=hr.lies (by omega);obtain ⟨y,hy⟩:∃ y,h.vs[j]?=some y:=eO (by rw [hr.len];exact hj);exact dL.keep4 hu x h4 h5 hy
def aQ1 (g:Nat) (m:iZ) (x:bE) (w:Wo) (e:Ending) (w':Wo):Prop:=e=.returned (.tuple #[])/\w.grownBy w' (some g)/\fG w' w'.heap.size m x/\∃ A n c,aG w' g 122 (m.cells (.slice A n c))/\(aDE x->n=(aA x).length/\jZ w' w'.heap.size A n (aDF x))
theorem fY {x:bE} (ok:cN x) (h8:x.nodes.length<=8):(aA x).length<=8:=by
 unfold aA kE;refine cV (List.length_filter_le _ _) ?_;rw [List.length_range];exact cV (fR ok).2 h8
theorem VV {free:List Nat} {B:List Rat} {F G:List Nat} {A:List (List Rat)} {k u v:Nat} {b:Rat} (h1:B[k]?=some b) (h2:F[k]?=some u) (h3:G[k]?=some v):RS free (B.drop k) (F.drop k) (G.drop k) A=RS free (B.drop (k+1)) (F.drop (k+1)) (G.drop (k+1)) (kL free A b u v):=by
 rw [cM h1,cM h2,cM h3];rfl
theorem UK (g:Nat) (m:iZ) (x:bE) (ok:cN x) (h8:x.nodes.length<=8) (w:Wo) (hb:aG w g 122 (m.cells (.slice none 0 0))) (r:fG w w.heap.size m x) :
    Calls Tryz.prog 93 #[.pointer (some ⟨g,0,none⟩)] w (aQ1 g m x w):=by
 have HG:=lH hb;have HR:=lH r;have DM:Hid ((aA x).length=m.n6):=lH (by rw [<-gU];exact r.r6.len);have m6:Hid (x.brs.length=m.n4):=lH (by rw [<-qV];exact r.r4.len);have iL:Hid (x.brs.length=m.n2):=lH (by rw [<-oR,<-gU];exact r.r2.len);have wJ:Hid (x.brs.length=m.n3):=lH (by rw [<-wB,<-gU];exact r.r3.len);have h6:m.n6<=8:=by rw [<-DM.o];exact fY ok h8
 have h4:m.n4<=24:=by rw [<-m6.o];exact ok.l2
 have HSB:Hid (∀ q∈mB x,bU q<=1):=lH fun q hq=>by
  unfold mB at hq;obtain ⟨b,hb,rfl⟩:=List.mem_map.1 hq;exact yW (ok.br b hb).2.2.2
 have HPL:Hid (∀ (u:Nat) (w':Wo),Below w.heap.size w w'->Calls Tryz.prog 127 #[.pointer (some ⟨g,0,none⟩),.int .i64 (u:Int)] w' fun e w''=>e=.returned (.int .i64 (BX (XJ (aA x) u)))/\w''=w'):=lH fun u w' hb'=>
  (Z_ g m _ (aA x) u w' (HG.o.bl hb') (r.r6.bm hb') (by omega)).mono fun e w'' h=>⟨h.1,h.2.symm⟩
 clear hb r ok h8;have y6:=HG.o.cell 6;have yl:=HG.o.lt;have tK:∀ w:World,(Instr.makeSlice 92 (.int .i64 (m.n6:Int)) (.int .i64 (m.n6:Int))).run Tryz.prog w=.ok (.slice (some ⟨w.heap.size,0,none⟩) m.n6 m.n6) (w.alloc (.cells (fC m.n6) 93)):=fun w=>v_ m.n6 (by omega) w;have HK:=lH ((Below.refl w.heap.size w).alloc lR (.cells (fC m.n6) 93));have N0:=lH (aG.new w 93 (fC m.n6));obtain ⟨A0,n0,c0,A1,n1,c1,A2,n2,c2,A3,n3,c3,A4,n4,c4,A5,n5,c5,A6,n6,c6⟩:=m;simp only [iZ.cells] at HG y6 tK HK N0 DM m6 iL wJ h6 h4;go_enter Tryz.func93,Tryz.ntmps93
 go_wp2_with fail
 clear tK;generalize w.alloc (.cells (fC n6) 93)=W at *;have HO:=lH (vV N0.o lR);generalize K7:w.heap.size=ga at *;have I8:=lH K7;clear K7 N0
 go_loopw [18] (fun v18 wr=>∃ (k:Nat) (hs:List Mh),k<=n6/\v18=.int .i64 k/\Below ga w wr/\iY wr ga ga hs ((pZ n6).take k++List.replicate (n6-k) [])) (fun v18 _=>n6-(intOf v18).toNat)
 case atStart=>exact ⟨0,_,by omega,rfl,HK.o,by rw [List.take_zero,List.nil_append,Nat.sub_zero];exact HO.o⟩
 case round=>
  clear HK HO;obtain ⟨k,hs,hk,rfl,hb,ho⟩:=hrel;have HK:=lH hb;have HO:=lH ho;clear hb ho
  by_cases aW:k<n6
  ·have fT:(k:Int)<(n6:Int):=by omega
   have l_:=lN k;have jW:Hid (n6-(k+1)<n6-k):=lH (by omega);have tW:Hid (ga<wr.heap.size):=lH HO.o.top.lt;clear y6 yl
   go_wp2_with fail
   refine (kT n6 wr (by omega)).mono ?_;rintro e w7 ⟨gY,gz,vz,rfl,hgz,M5,hvz⟩;have oY:=lH (HO.o.up gY);have rE:Hid (sB w7 ga ga ⟨some ⟨gz,0,none⟩,gz,n6,List.replicate n6 vz⟩ (List.replicate n6 0)):=lH (WS M5 hvz (by have:=tW.o;omega) (by have:=tW.o;omega) (by omega));have fZ:=lH (HK.o.trans (gY.mono (rC tW.o)));have SZ:Hid (∀ j (h':Mh),j≠k->hs[j]?=some h'->0<h'.vs.length->0<(List.replicate n6 vz).length->h'.g≠gz):=lH fun j h' _ hh l1 l2=>by
    have h3:=HO.o.lt hh l1;omega
   clear gY M5 hvz hgz HK HO;have gl:=oY.o.top.lt;have gf:=oY.o.top.frozen;have JX:Hid (k<(((pZ n6).take k++List.replicate (n6-k) []):List (List Rat)).length):=lH (by simp [pZ];omega);obtain ⟨gv,gc⟩:∃ gv,w7.cell? ⟨ga,k,none⟩=some gv:=by
    rw [oY.o.top.cell];exact ⟨_,Array.getElem?_eq_getElem (by rw [List.size_toArray,lB,oY.o.len];exact JX.o)⟩
   have DL:=lH (oY.o.setRow JX.o rE.o SZ.o);rw [WQ aW,o3] at DL
   go_wp2_with fail
   go_roundw
   case rel=>exact ⟨k+1,_,aW,aQ l_.o,fZ.o.setCell lR _,DL.o⟩
   case measure=>exact jW.o
  ·have lS:k=n6:=by omega
   have IN:Hid (iY wr ga ga hs (pZ n6)):=lH (by
    have h:=HO.o;rw [lS,Nat.sub_self,List.replicate_zero,List.append_nil,nW (by unfold pZ;rw [o3];exact lR)] at h;exact h)
   have fT:¬(k:Int)<(n6:Int):=by omega
   have J1:Hid (Below w.heap.size w wr):=lH (by rw [I8.o];exact HK.o);have AS:=lH (HG.o.bl J1.o);have y4:=AS.o.cell 4;have yl1:=AS.o.lt;clear y6 yl HO lS
   go_wp2_with fail
   clear y4 yl1 J1 AS;generalize wr=wz at *
   go_loopw [32] (fun v32 wr=>∃ (k:Nat) (hs:List Mh) (A:List (List Rat)),k<=n4/\v32=.int .i64 k/\i_ ga ga w wr (.slice none 0 0) [] hs A/\kA n6 (3+8*k) A/\RS (aA x) ((mB x).drop k) ((gV x).drop k) ((B7 x).drop k) A=JN x) (fun v32 _=>n4-(intOf v32).toNat)
   case atStart=>exact ⟨0,hs,pZ n6,by omega,rfl,⟨IN.o,dO _ _ _ _ _,HK.o⟩,YV n6,by unfold JN;rw [DM.o];rfl⟩
   case round=>
    clear HK IN;obtain ⟨k,hs,A,hk,rfl,ho,pY,nP⟩:=hrel;have hb:=ho.low;have dJ:=lH ho;have cH:=lH pY;have jB:=lH nP;have HW:Hid (Below w.heap.size w wr):=lH (by rw [I8.o];exact hb);have rE:=lH ((HR.o.below hb lR).more (rC ho.own.top.lt));have AS:=lH (HG.o.bl HW.o);clear hb ho pY nP
    by_cases aW:k<n4
    ·obtain ⟨q,hq⟩:∃ q,(mB x)[k]?=some q:=eO (by rw [qV];have:=m6.o;omega)
     obtain ⟨u,hu⟩:∃ u,(gV x)[k]?=some u:=eO (by rw [oR];have:=m6.o;omega);obtain ⟨v,hv⟩:∃ v,(B7 x)[k]?=some v:=eO (by rw [wB];have:=m6.o;omega);have gR:=lH (VV (free:=aA x) (A:=A) hq hu hv);rw [jB.o] at gR;have WA:=lH (HSB.o q (cO hq));have GL:=rE.o.r4;have MY:=rE.o.r2;have CB:=rE.o.r3;simp only at GL MY CB;obtain ⟨ab,ao,AE,oS⟩:=GL.form (by omega);subst AE;obtain ⟨xr,a0,a1,a2,a3,a4⟩:=GL.at_ hq;have HX:=lH a4;obtain ⟨fb,fo,LC,uO,-⟩:=MY.2 (by have:=iL.o;have:=m6.o;omega);subst LC;have f0:=MY.at_ (iT hu);obtain ⟨tb,to2,hA3,UT,-⟩:=CB.2 (by have:=wJ.o;have:=m6.o;omega);subst hA3;have t0:=CB.at_ (iT hv);have fT:(k:Int)<(n4:Int):=by omega
     have AW:k<n2:=by have:=iL.o;have:=m6.o;omega
     have hk3:k<n3:=by have:=wJ.o;have:=m6.o;omega
     have aP1:(k:Int)<(n2:Int):=by omega
     have aP0:(k:Int)<(n3:Int):=by omega
     have kF:=lZ k
     have qW:=kU k;have l_:=lN k;have jW:Hid (n4-(k+1)<n4-k):=lH (by omega);have a4n:Hid (ga<wr.heap.size):=lH dJ.o.own.top.lt;clear hq hu hv a4 GL MY CB
     go_upto_region 10 with fail
     clear a0 a1 a2 a3;generalize yP:wr.alloc (.cells #[.bool xr.b1,.slice xr.A xr.n xr.c,.bool xr.b2,.slice xr.A2 xr.m xr.d] 115)=wa;have rY:Below wr.heap.size wr wa:=by rw [<-yP];exact bA
     have HSX:Hid (aG wa wr.heap.size 115 #[.bool xr.b1,.slice xr.A xr.n xr.c,.bool xr.b2,.slice xr.A2 xr.m xr.d]):=lH (by rw [<-yP];exact aG.new wr _ _);have cU:Hid (AV wa ga wr.heap.size hs q xr):=lH ⟨HSX.o,HX.o.up rY,fun i h hh l=>dJ.o.own.lt hh l⟩;replace dJ:=lH (dJ.o.up rY);replace AS:=lH (AS.o.bl rY);have f0':=(rY.cell (p:=⟨fb,fo+k,none⟩) uO).trans f0;have t0':=(rY.cell (p:=⟨tb,to2+k,none⟩) UT).trans t0;have wD:fb<wa.heap.size:=jO uO rY.size;have QB:tb<wa.heap.size:=jO UT rY.size;clear f0 t0 uO UT rE yP rY HSX HX;generalize hgx:wr.heap.size=gx at *;have HGX:=lH hgx;clear hgx
     have HPA:Hid (∀ (u N:Nat),Calls Tryz.prog 127 #[.pointer (some ⟨g,0,none⟩),.int .i64 (u:Int)] (wa.drewN N) fun e w''=>e=.returned (.int .i64 (BX (XJ (aA x) u)))/\w''=wa.drewN N):=lH fun u N=>HPL.o u (wa.drewN N) (bC dJ.o.low N);have y2:=AS.o.cell 2;have y3:=AS.o.cell 3;have yl:=AS.o.lt
     go_quiet ((first | (go_at_call_of 127 (Value.int .i64 (u:Int));exact (HPA.o u _).mono (fun _ _ hh=>⟨hh.1,_,hh.2⟩)) | (go_at_call_of 127 (Value.int .i64 (v:Int));exact (HPA.o v _).mono (fun _ _ hh=>⟨hh.1,_,hh.2⟩))))
     replace dJ:=lH (dJ.o.up (bC bR nq));replace cU:=lH (cU.o.up (bC bR nq));clear HPA;replace AS:=lH (AS.o.drewN nq);have f0:(wa.drewN nq).cell? ⟨fb,fo+k,none⟩=some (.int .i64 (u:Int)):=f0';have t0:(wa.drewN nq).cell? ⟨tb,to2+k,none⟩=some (.int .i64 (v:Int)):=t0';have aVp:fb<(wa.drewN nq).heap.size:=wD;have aUm:tb<(wa.drewN nq).heap.size:=QB;clear f0' t0' wD QB y2 y3 yl;generalize wa.drewN nq=wd at *;have y2:=AS.o.cell 2;have y3:=AS.o.cell 3;have yl:=AS.o.lt
     by_cases huv:u=v
     ·subst huv
      have NT:Hid (kL (aA x) A q u u=A):=lH (by unfold kL;rw [if_pos rfl]);rw [NT.o] at gR
      go_wp2_with fail
      go_quiet (fail)
      go_wp2_with fail
      go_roundw
      case rel=>exact ⟨k+1,hs,A,aW,aQ l_.o,dJ.o.up (bC bR _),cH.o.mono (by omega),gR.o.symm⟩
      case measure=>exact jW.o
     ·have aUi:¬((u:Int)=(v:Int)):=by omega
      have aUj:((u:Int) == (v:Int))=false:=by simp;omega
      go_wp2_with fail
      go_quiet (fail)
      clear f0 t0 aVp aUm y2 y3 yl aUi aUj;replace dJ:=lH (dJ.o.up (bC bR nq));replace cU:=lH (cU.o.up (bC bR nq));clear AS;generalize wd.drewN nq=we at *;have ON:=lH DM.o;cases hpu:XJ (aA x) u with
      | none=>
       cases X3:XJ (aA x) v with
       | none=>
        have NT:Hid (kL (aA x) A q u v=A):=lH (by unfold kL;rw [if_neg huv,hpu,X3]);rw [NT.o] at gR;rw [(show BX (none:Option Nat)=-1 from rfl)]
        go_wp2_with fail
        go_roundw
        case rel=>exact ⟨k+1,hs,A,aW,aQ l_.o,dJ.o,cH.o.mono (by omega),gR.o.symm⟩
        case measure=>exact jW.o
       | some j=>
        have hi:=(BU X3).1;rw [ON.o] at hi;have NT:Hid (kL (aA x) A q u v=fA A j j q):=lH (by unfold kL;rw [if_neg huv,hpu,X3]);rw [NT.o] at gR;rw [(show BX (none:Option Nat)=-1 from rfl),show BX (some j)=(j:Int) from rfl];have QI:(j:Int)<(n6:Int):=by omega
        have kC:=lZ j
        clear hpu X3 NT
        go_upto_region 15 with fail
        obtain ⟨ra,wT⟩:∃ ra,A[j]?=some ra:=eO (by have:=cH.o.len;omega);have sO:ra.length=n6:=cH.o.wid ra (cO wT);obtain ⟨gg,cc,vs,xe,hh,c,hx,c0,c1,c2',c3',hv,l1,f1,cP⟩:=dJ.o.elem (i:=j) (j:=j) wT (by omega);rw [sO] at c;have HH:=lH hh;have D8:=lH hx;have DK:=lH hv;have p5:=lH wT;have vE:=lH sO;have IK:Hid (bU (vf ra j)+bU q+1<=35184372088832):=lH (by have:=cH.o.bd.vf wT (j:=j) (by omega);have:=WA.o;omega);have gl:=dJ.o.own.top.lt;have z0:=cU.o.blk.cell 0;have z1:=cU.o.blk.cell 1;have z2:=cU.o.blk.cell 2;have z3:=cU.o.blk.cell 3;have zl:=cU.o.blk.lt;have bK:=lH (aD (Below.refl we.heap.size we));have sS:(j:Int)<(n6:Int):=by omega
        have sU:=lZ j
        have sR:=kU j;clear hh hx hv wT sO;refine aJ (S:=fun w'=>Below we.heap.size we w') 15 _ (by kernel_rfl) (by kernel_rfl) rfl (aD bR) (fun hHeld=>?_);simp only [lA,List.take_zero];refine aL 0 rfl ?_;refine aL 1 rfl ?_;refine aL 2 rfl ?_;refine aL 3 rfl ?_;refine aL 4 rfl ?_;refine aL 5 rfl ?_;refine aL 6 rfl ?_;refine aL 7 rfl ?_;refine aL 8 rfl ?_;refine aL 9 rfl ?_;refine aL 10 rfl ?_;refine aL 11 rfl ?_;refine aL 12 rfl ?_;refine aU 13 (by kernel_rfl) rfl (fun K hK=>?_);go_simp;refine (ID (DK.o.up bK.o) (cU.o.val.up bK.o) IK.o).mono ?_;rintro e w8 ⟨e_,v8,rfl,h8⟩;have dF:Hid (Below we.heap.size we w8):=lH (bK.o.tm e_);have H8:=lH h8;clear e_ h8;go_simp;refine hK.out _ _ ?_ (fun hHeld=>?_)
        ·exact dF.o
        clear hK K
        try simp only [Act.put,bP,bO,bN]
        refine aL 14 rfl ?_;refine wpAnyH_done (by kernel_rfl) ?_ _;refine aP (by rfl) ?_;clear hHeld;have p_:=lH (dJ.o.up dF.o);have V0:=lH (cU.o.up dF.o);clear c c0 c1 c2' c3' l1 f1 cP gl z0 z1 z2 z3 zl dJ cU DK IK bK;obtain ⟨c0,c1,c2',c3',l1,f1⟩:=p_.o.elem2 HH.o p5.o D8.o
        go_upto_region 16 with fail
        clear c0 c1 c2' c3' l1 f1;have dJ:=p_.o.put HH.o p5.o (j:=j) (x:=v8) (by rw [vE.o];omega) H8.o;have cU:=V0.o.put p_.o HH.o p5.o (j:=j) (x:=v8) (by rw [vE.o];omega);rw [<-hZ p5.o] at dJ;replace cH:Hid (kA n6 (3+8*k+2) (fA A j j q)):=lH (cH.o.add (by omega) (by omega) WA.o);simp only [gB] at dJ cU;generalize (((w8.setCell ⟨gg,j*4,none⟩ _).setCell ⟨gg,j*4+1,none⟩ _).setCell ⟨gg,j*4+2,none⟩ _).setCell ⟨gg,j*4+3,none⟩ _=wf at *;replace dJ:=lH dJ;replace cU:=lH cU;generalize hs.set j _=wS at *;obtain ⟨A1,AE⟩:∃ A1,fA A j j q=A1:=⟨_,rfl⟩;rw [AE] at dJ cH;have HA1:=lH AE;clear AE p_ V0 H8 dF HH p5 vE D8 sS sU sR;rw [HA1.o] at gR
        go_wp2_with fail
        go_roundw
        case rel=>exact ⟨k+1,wS,A1,aW,aQ l_.o,dJ.o,cH.o.mono (by omega),gR.o.symm⟩
        case measure=>exact jW.o
      | some i=>
       cases X3:XJ (aA x) v with
       | none=>
        have hi:=(BU hpu).1;rw [ON.o] at hi;have NT:Hid (kL (aA x) A q u v=fA A i i q):=lH (by unfold kL;rw [if_neg huv,hpu,X3]);rw [NT.o] at gR;rw [(show BX (none:Option Nat)=-1 from rfl),show BX (some i)=(i:Int) from rfl];have QI:(i:Int)<(n6:Int):=by omega
        have kC:=lZ i
        clear hpu X3 NT
        go_upto_region 13 with fail
        obtain ⟨ra,wT⟩:∃ ra,A[i]?=some ra:=eO (by have:=cH.o.len;omega);have sO:ra.length=n6:=cH.o.wid ra (cO wT);obtain ⟨gg,cc,vs,xe,hh,c,hx,c0,c1,c2',c3',hv,l1,f1,cP⟩:=dJ.o.elem (i:=i) (j:=i) wT (by omega);rw [sO] at c;have HH:=lH hh;have D8:=lH hx;have DK:=lH hv;have p5:=lH wT;have vE:=lH sO;have IK:Hid (bU (vf ra i)+bU q+1<=35184372088832):=lH (by have:=cH.o.bd.vf wT (j:=i) (by omega);have:=WA.o;omega);have gl:=dJ.o.own.top.lt;have z0:=cU.o.blk.cell 0;have z1:=cU.o.blk.cell 1;have z2:=cU.o.blk.cell 2;have z3:=cU.o.blk.cell 3;have zl:=cU.o.blk.lt;have bK:=lH (aD (Below.refl we.heap.size we));have sS:(i:Int)<(n6:Int):=by omega
        have sU:=lZ i
        have sR:=kU i;clear hh hx hv wT sO;refine aJ (S:=fun w'=>Below we.heap.size we w') 15 _ (by kernel_rfl) (by kernel_rfl) rfl (aD bR) (fun hHeld=>?_);simp only [lA,List.take_zero];refine aL 0 rfl ?_;refine aL 1 rfl ?_;refine aL 2 rfl ?_;refine aL 3 rfl ?_;refine aL 4 rfl ?_;refine aL 5 rfl ?_;refine aL 6 rfl ?_;refine aL 7 rfl ?_;refine aL 8 rfl ?_;refine aL 9 rfl ?_;refine aL 10 rfl ?_;refine aL 11 rfl ?_;refine aL 12 rfl ?_;refine aU 13 (by kernel_rfl) rfl (fun K hK=>?_);go_simp;refine (ID (DK.o.up bK.o) (cU.o.val.up bK.o) IK.o).mono ?_;rintro e w8 ⟨e_,v8,rfl,h8⟩;have dF:Hid (Below we.heap.size we w8):=lH (bK.o.tm e_);have H8:=lH h8;clear e_ h8;go_simp;refine hK.out _ _ ?_ (fun hHeld=>?_)
        ·exact dF.o
        clear hK K
        try simp only [Act.put,bP,bO,bN]
        refine aL 14 rfl ?_;refine wpAnyH_done (by kernel_rfl) ?_ _;refine aP (by rfl) ?_;clear hHeld;have p_:=lH (dJ.o.up dF.o);have V0:=lH (cU.o.up dF.o);clear c c0 c1 c2' c3' l1 f1 cP gl z0 z1 z2 z3 zl dJ cU DK IK bK;obtain ⟨c0,c1,c2',c3',l1,f1⟩:=p_.o.elem2 HH.o p5.o D8.o
        go_upto_region 14 with fail
        clear c0 c1 c2' c3' l1 f1;have dJ:=p_.o.put HH.o p5.o (j:=i) (x:=v8) (by rw [vE.o];omega) H8.o;have cU:=V0.o.put p_.o HH.o p5.o (j:=i) (x:=v8) (by rw [vE.o];omega);rw [<-hZ p5.o] at dJ;replace cH:Hid (kA n6 (3+8*k+2) (fA A i i q)):=lH (cH.o.add (by omega) (by omega) WA.o);simp only [gB] at dJ cU;generalize (((w8.setCell ⟨gg,i*4,none⟩ _).setCell ⟨gg,i*4+1,none⟩ _).setCell ⟨gg,i*4+2,none⟩ _).setCell ⟨gg,i*4+3,none⟩ _=wf at *;replace dJ:=lH dJ;replace cU:=lH cU;generalize hs.set i _=wS at *;obtain ⟨A1,AE⟩:∃ A1,fA A i i q=A1:=⟨_,rfl⟩;rw [AE] at dJ cH;have HA1:=lH AE;clear AE p_ V0 H8 dF HH p5 vE D8 sS sU sR;rw [HA1.o] at gR
        go_wp2_with fail
        go_roundw
        case rel=>exact ⟨k+1,wS,A1,aW,aQ l_.o,dJ.o,cH.o.mono (by omega),gR.o.symm⟩
        case measure=>exact jW.o
       | some j=>
        have hi:=(BU hpu).1;have hj:=(BU X3).1;have xM:=aLn hpu X3 huv;rw [ON.o] at hi hj;have NT:Hid (kL (aA x) A q u v=fA (fA (fA (fA A i i q) j j q) i j (-q)) j i (-q)):=lH (by unfold kL;rw [if_neg huv,hpu,X3]);rw [NT.o] at gR;rw [show BX (some i)=(i:Int) from rfl,show BX (some j)=(j:Int) from rfl];have QI:(i:Int)<(n6:Int):=by omega
        have kC:=lZ i
        have hjI:(j:Int)<(n6:Int):=by omega
        have JH:=lZ j
        clear hpu X3 NT
        go_upto_region 13 with fail
        obtain ⟨ra,wT⟩:∃ ra,A[i]?=some ra:=eO (by have:=cH.o.len;omega);have sO:ra.length=n6:=cH.o.wid ra (cO wT);obtain ⟨gg,cc,vs,xe,hh,c,hx,c0,c1,c2',c3',hv,l1,f1,cP⟩:=dJ.o.elem (i:=i) (j:=i) wT (by omega);rw [sO] at c;have HH:=lH hh;have D8:=lH hx;have DK:=lH hv;have p5:=lH wT;have vE:=lH sO;have IK:Hid (bU (vf ra i)+bU q+1<=35184372088832):=lH (by have:=cH.o.bd.vf wT (j:=i) (by omega);have:=WA.o;omega);have gl:=dJ.o.own.top.lt;have z0:=cU.o.blk.cell 0;have z1:=cU.o.blk.cell 1;have z2:=cU.o.blk.cell 2;have z3:=cU.o.blk.cell 3;have zl:=cU.o.blk.lt;have bK:=lH (aD (Below.refl we.heap.size we));have sS:(i:Int)<(n6:Int):=by omega
        have sU:=lZ i
        have sR:=kU i;clear hh hx hv wT sO;refine aJ (S:=fun w'=>Below we.heap.size we w') 15 _ (by kernel_rfl) (by kernel_rfl) rfl (aD bR) (fun hHeld=>?_);simp only [lA,List.take_zero];refine aL 0 rfl ?_;refine aL 1 rfl ?_;refine aL 2 rfl ?_;refine aL 3 rfl ?_;refine aL 4 rfl ?_;refine aL 5 rfl ?_;refine aL 6 rfl ?_;refine aL 7 rfl ?_;refine aL 8 rfl ?_;refine aL 9 rfl ?_;refine aL 10 rfl ?_;refine aL 11 rfl ?_;refine aL 12 rfl ?_;refine aU 13 (by kernel_rfl) rfl (fun K hK=>?_);go_simp;refine (ID (DK.o.up bK.o) (cU.o.val.up bK.o) IK.o).mono ?_;rintro e w8 ⟨e_,v8,rfl,h8⟩;have dF:Hid (Below we.heap.size we w8):=lH (bK.o.tm e_);have H8:=lH h8;clear e_ h8;go_simp;refine hK.out _ _ ?_ (fun hHeld=>?_)
        ·exact dF.o
        clear hK K
        try simp only [Act.put,bP,bO,bN]
        refine aL 14 rfl ?_;refine wpAnyH_done (by kernel_rfl) ?_ _;refine aP (by rfl) ?_;clear hHeld;have p_:=lH (dJ.o.up dF.o);have V0:=lH (cU.o.up dF.o);clear c c0 c1 c2' c3' l1 f1 cP gl z0 z1 z2 z3 zl dJ cU DK IK bK;obtain ⟨c0,c1,c2',c3',l1,f1⟩:=p_.o.elem2 HH.o p5.o D8.o
        go_upto_region 15 with fail
        clear c0 c1 c2' c3' l1 f1;have dJ:=p_.o.put HH.o p5.o (j:=i) (x:=v8) (by rw [vE.o];omega) H8.o;have cU:=V0.o.put p_.o HH.o p5.o (j:=i) (x:=v8) (by rw [vE.o];omega);rw [<-hZ p5.o] at dJ;replace cH:Hid (kA n6 (3+8*k+2) (fA A i i q)):=lH (cH.o.add (by omega) (by omega) WA.o);simp only [gB] at dJ cU;generalize (((w8.setCell ⟨gg,i*4,none⟩ _).setCell ⟨gg,i*4+1,none⟩ _).setCell ⟨gg,i*4+2,none⟩ _).setCell ⟨gg,i*4+3,none⟩ _=wf at *;replace dJ:=lH dJ;replace cU:=lH cU;generalize hs.set i _=wS at *;obtain ⟨A1,AE⟩:∃ A1,fA A i i q=A1:=⟨_,rfl⟩;rw [AE] at dJ cH;have HA1:=lH AE;clear AE p_ V0 H8 dF HH p5 vE D8 sS sU sR;rw [HA1.o] at gR;obtain ⟨ra,wT⟩:∃ ra,A1[j]?=some ra:=eO (by have:=cH.o.len;omega);have sO:ra.length=n6:=cH.o.wid ra (cO wT)
        obtain ⟨gg,cc,vs,xe,hh,c,hx,c0,c1,c2',c3',hv,l1,f1,cP⟩:=dJ.o.elem (i:=j) (j:=j) wT (by omega);rw [sO] at c;have HH:=lH hh;have D8:=lH hx;have DK:=lH hv;have p5:=lH wT;have vE:=lH sO;have IK:Hid (bU (vf ra j)+bU q+1<=35184372088832):=lH (by have:=cH.o.bd.vf wT (j:=j) (by omega);have:=WA.o;omega);have gl:=dJ.o.own.top.lt;have z0:=cU.o.blk.cell 0;have z1:=cU.o.blk.cell 1;have z2:=cU.o.blk.cell 2;have z3:=cU.o.blk.cell 3;have zl:=cU.o.blk.lt;have bK:=lH (aD (Below.refl wf.heap.size wf));have sS:(j:Int)<(n6:Int):=by omega
        have sU:=lZ j
        have sR:=kU j;clear hh hx hv wT sO;refine aJ (S:=fun w'=>Below wf.heap.size wf w') 15 _ (by kernel_rfl) (by kernel_rfl) rfl (aD bR) (fun hHeld=>?_);simp only [lA,List.take_zero];refine aL 0 rfl ?_;refine aL 1 rfl ?_;refine aL 2 rfl ?_;refine aL 3 rfl ?_;refine aL 4 rfl ?_;refine aL 5 rfl ?_;refine aL 6 rfl ?_;refine aL 7 rfl ?_;refine aL 8 rfl ?_;refine aL 9 rfl ?_;refine aL 10 rfl ?_;refine aL 11 rfl ?_;refine aL 12 rfl ?_;refine aU 13 (by kernel_rfl) rfl (fun K hK=>?_);go_simp;refine (ID (DK.o.up bK.o) (cU.o.val.up bK.o) IK.o).mono ?_;rintro e w8 ⟨e_,v8,rfl,h8⟩;have dF:Hid (Below wf.heap.size wf w8):=lH (bK.o.tm e_);have H8:=lH h8;clear e_ h8;go_simp;refine hK.out _ _ ?_ (fun hHeld=>?_)
        ·exact dF.o
        clear hK K
        try simp only [Act.put,bP,bO,bN]
        refine aL 14 rfl ?_;refine wpAnyH_done (by kernel_rfl) ?_ _;refine aP (by rfl) ?_;clear hHeld;have p_:=lH (dJ.o.up dF.o);have V0:=lH (cU.o.up dF.o);clear c c0 c1 c2' c3' l1 f1 cP gl z0 z1 z2 z3 zl dJ cU DK IK bK;obtain ⟨c0,c1,c2',c3',l1,f1⟩:=p_.o.elem2 HH.o p5.o D8.o
        go_upto_region 17 with fail
        clear c0 c1 c2' c3' l1 f1;have dJ:=p_.o.put HH.o p5.o (j:=j) (x:=v8) (by rw [vE.o];omega) H8.o;have cU:=V0.o.put p_.o HH.o p5.o (j:=j) (x:=v8) (by rw [vE.o];omega);rw [<-hZ p5.o] at dJ;replace cH:Hid (kA n6 (3+8*k+2+2) (fA A1 j j q)):=lH (cH.o.add (by omega) (by omega) WA.o);simp only [gB] at dJ cU;generalize (((w8.setCell ⟨gg,j*4,none⟩ _).setCell ⟨gg,j*4+1,none⟩ _).setCell ⟨gg,j*4+2,none⟩ _).setCell ⟨gg,j*4+3,none⟩ _=wg at *;replace dJ:=lH dJ;replace cU:=lH cU;generalize wS.set j _=yB at *;obtain ⟨A2,LC⟩:∃ A2,fA A1 j j q=A2:=⟨_,rfl⟩;rw [LC] at dJ cH;have HA2:=lH LC;clear LC p_ V0 H8 dF HH p5 vE D8 sS sU sR;rw [HA2.o] at gR;obtain ⟨ra,wT⟩:∃ ra,A2[i]?=some ra:=eO (by have:=cH.o.len;omega);obtain ⟨rb,zW⟩:∃ rb,A2[j]?=some rb:=eO (by have:=cH.o.len;omega);have sO:ra.length=n6:=cH.o.wid ra (cO wT)
        have aLU:rb.length=n6:=cH.o.wid rb (cO zW);obtain ⟨g1,k1,vs1,x1,hh1,p,p0,p1,p2,p3,p4,mJ,l1,f1,aUI⟩:=dJ.o.elem (i:=i) (j:=j) wT (by omega);obtain ⟨g2,k2,vs2,x2,hh2,e,e0,e1,e2,e3,e4,kD,l2,f2,QF⟩:=dJ.o.elem (i:=j) (j:=i) zW (by omega);rw [sO] at p;rw [aLU] at e;have HH1:=lH hh1;have HH2:=lH hh2;have cJ:=lH p0;have dI:=lH e0;have mZ:=lH mJ;have qY:=lH kD;have p5:=lH wT;have HRB:=lH zW;have aRI:=lH sO;have aW7:=lH aLU;have aRR:Hid (bU (vf ra j)+bU q+1<=35184372088832):=lH (by have:=cH.o.bd.vf wT (j:=j) (by omega);have:=WA.o;omega);have aRQ:Hid (bU (vf rb i)+bU q+1<=35184372088832):=lH (by have:=cH.o.bd.vf zW (j:=i) (by omega);have:=WA.o;omega);have HIJ:=lH xM;have gl:=dJ.o.own.top.lt;have z0:=cU.o.blk.cell 0;have z1:=cU.o.blk.cell 1;have z2:=cU.o.blk.cell 2;have z3:=cU.o.blk.cell 3;have zl:=cU.o.blk.lt
        have bK:=lH (aD (Below.refl wg.heap.size wg));have lG:=kU i;have tL:=kU j;clear hh1 hh2 p0 e0 mJ kD wT zW sO aLU xM;refine BE (S:=fun w'=>Below wg.heap.size wg w') 28 9 _ _ _ _ (.int .i64 (i:Int)) (by kernel_rfl) (by kernel_rfl) (by kernel_rfl) (by kernel_rfl) rfl (by decide) (by kernel_rfl) rfl rfl rfl (by kernel_rfl) (fun _ _ _ h=>h) (by rfl) (fun w'=>by go_simp<;>with_reducible rfl) (aD bR) (fun hHeld=>?_);simp only [lA,List.take_zero]
        try simp only [Act.put,bP,bO,bN]
        refine aL 0 rfl ?_;refine aL 1 rfl ?_;refine aL 2 rfl ?_;refine aL 3 rfl ?_;refine aL 4 rfl ?_;refine aL 5 rfl ?_;refine aL 6 rfl ?_;refine aL 7 rfl ?_;refine aL 8 rfl ?_;refine aL 10 rfl ?_;refine aL 11 rfl ?_;refine aL 12 rfl ?_;refine aL 13 rfl ?_;refine aL 14 rfl ?_;refine aL 15 rfl ?_;refine aL 16 rfl ?_;refine aL 17 rfl ?_;refine aL 19 rfl ?_;refine aL 20 rfl ?_;refine aL 21 rfl ?_;refine aL 22 rfl ?_;refine aL 23 rfl ?_;refine aL 24 rfl ?_;refine aL 25 rfl ?_;refine aL 26 rfl ?_;refine aU 18 (by kernel_rfl) rfl (fun K hK=>?_);go_simp;refine (TD (mZ.o.up bK.o) (cU.o.val.up bK.o) aRR.o).mono ?_;rintro e8 w8 ⟨e_,v8,rfl,h8⟩;have dF:Hid (Below wg.heap.size wg w8):=lH (bK.o.tm e_);have H8:=lH h8;clear e_ h8;go_simp;refine hK.out _ _ ?_ (fun hHeld=>?_)
        ·exact dF.o
        clear hK K
        try simp only [Act.put,bP,bO,bN]
        refine aU 27 (by kernel_rfl) rfl (fun K hK=>?_);go_simp;refine (TD (qY.o.up dF.o) (cU.o.val.up dF.o) aRQ.o).mono ?_;rintro e9 w9 ⟨gE,v9,rfl,h9⟩;have cQ:Hid (Below wg.heap.size wg w9):=lH (dF.o.tm gE);have H9:=lH h9;replace H8:=lH (H8.o.up gE);clear gE h9;go_simp;refine hK.out _ _ ?_ (fun hHeld=>?_)
        ·exact cQ.o
        clear hK K
        try simp only [Act.put,bP,bO,bN]
        refine aL 28 rfl ?_;refine wpAnyH_done (by kernel_rfl) ?_ _;refine aP (by rfl) ?_;clear hHeld;have L2:=lH (dJ.o.up cQ.o);clear p p1 p2 p3 p4 l1 f1 aUI e e1 e2 e3 e4 l2 f2 QF gl z0 z1 z2 z3 zl dJ cU mZ qY aRR aRQ bK dF;obtain ⟨p1,p2,p3,p4,l1,f1⟩:=L2.o.elem2 HH1.o p5.o cJ.o;go_simp;have R6:=L2.o.put HH1.o p5.o (j:=j) (x:=v8) (by rw [aRI.o];omega) H8.o;have WP:=i_.keepv (x:=v8) L2.o HH1.o p5.o (j:=j) (by rw [aRI.o];omega) H9.o;rw [Rat.sub_eq_add_neg,<-hZ p5.o] at R6;have aM7:Hid ((fA A2 i j (-q))[j]?=some rb):=lH (by rw [hZ p5.o,List.getElem?_set_ne HIJ.o];exact HRB.o);have aSk:=lH ((List.getElem?_set_ne (l:=yB) (a:=(⟨some ⟨g1,0,none⟩,g1,k1,vs1.set j v8⟩:Mh)) HIJ.o).trans HH2.o)
        replace cH:Hid (kA n6 (3+8*k+2+2+2+2) (fA (fA A2 i j (-q)) j i (-q))):=lH ((cH.o.add (i:=i) (j:=j) (q:=-q) (by omega) (by omega) (by rw [qH];exact WA.o)).add (by omega) (by omega) (by rw [qH];exact WA.o));simp only [gB] at R6 WP;generalize (((w9.setCell ⟨g1,j*4,none⟩ _).setCell ⟨g1,j*4+1,none⟩ _).setCell ⟨g1,j*4+2,none⟩ _).setCell ⟨g1,j*4+3,none⟩ _=wh at *;replace R6:=lH R6;replace WP:=lH WP;generalize fA A2 i j (-q)=A3 at *;generalize yB.set i _=hs3 at *;clear p1 p2 p3 p4 l1 f1 L2 H8 H9 cQ;obtain ⟨e1,e2,e3,e4,l2,f2⟩:=R6.o.elem2 aSk.o aM7.o dI.o;refine aP (by rfl) ?_;go_simp;refine aP (by rfl) ?_
        go_wp2_with fail
        go_roundw
        case rel=>
         have yM:=R6.o.put aSk.o aM7.o (j:=i) (x:=v9) (by rw [aW7.o];omega) WP.o;rw [Rat.sub_eq_add_neg,<-hZ aM7.o] at yM;exact ⟨k+1,_,_,aW,aQ l_.o,yM,cH.o.mono (by omega),gR.o.symm⟩
        case measure=>exact jW.o
    ·have lS:k=n4:=by omega
     have HA:Hid (A=JN x):=lH (by
      have h:=jB.o;rw [List.drop_eq_nil_of_le (by rw [qV];have:=m6.o;omega)] at h;exact h)
     rw [HA.o] at dJ cH;have fT:¬(k:Int)<(n4:Int):=by omega
     have hmr:(JN x).length=n6:=cH.o.len;have D_:Hid (jZ wr wr.heap.size (some ⟨ga,0,none⟩) n6 (JN x)):=lH (by have h:=dJ.o.own.rd;rwa [hmr] at h);have hpw:4^n6<=4^8:=Nat.pow_le_pow_right (by decide) h6;have SY:=lH (KU (some ⟨ga,0,none⟩) n6 n6 (3+8*k) (JN x) wr D_.o (by omega) cH.o.wid cH.o.bd (by omega) (cV (Nat.mul_le_mul hpw lR) (by omega)));have j_:=lH hmr;clear jB HA lS hpw hmr D_ cH aW hk
     go_wp2_with fail
     refine SY.o.mono ?_;rintro e w1 ⟨bH,halt⟩;have bS:Hid (Below ga w w1):=lH (dJ.o.low.trans (bH.mono (rC dJ.o.own.top.lt)));have HWL:Hid (ga<=wr.heap.size):=lH (rC dJ.o.own.top.lt);have HWS:Hid (ga<=w1.heap.size):=lH (by have:=bS.o.size;have:=I8.o;omega);have tV:=lH ((HR.o.below bS.o lR).more HWS.o);have fI:=lH (HG.o.below bS.o (by have:=HG.o.lt;have:=I8.o;omega));have HGR:Hid (∀ u,w.grownBy (w1.setCell ⟨g,7,none⟩ u) (some g)):=lH fun u=>gC (gK (by rw [I8.o];exact bS.o) _) (.inl rfl) u;have nR:Hid (∀ u,aG (w1.setCell ⟨g,7,none⟩ u) g 122 #[.slice A0 n0 c0,.slice A1 n1 c1,.slice A2 n2 c2,.slice A3 n3 c3,.slice A4 n4 c4,.slice A5 n5 c5,.slice A6 n6 c6,u]):=lH fun u=>fI.o.set_at (i:=7) u (by simp)
     have HKM:Hid (∀ u,fG (w1.setCell ⟨g,7,none⟩ u) (w1.setCell ⟨g,7,none⟩ u).heap.size ⟨A0,n0,c0,A1,n1,c1,A2,n2,c2,A3,n3,c3,A4,n4,c4,A5,n5,c5,A6,n6,c6⟩ x):=lH fun u=>tV.o.keepm (m:=⟨A0,n0,c0,A1,n1,c1,A2,n2,c2,A3,n3,c3,A4,n4,c4,A5,n5,c5,A6,n6,c6⟩) fI.o (by decide) u;rw [j_.o] at halt;have aFO:Hid (aDE x<->¬(lD (gN (JN x)) n6).2.length<n6):=lH (by unfold aDE;rw [DM.o]);have IP:Hid (aDF x=(lD (gN (JN x)) n6).1.map (List.drop n6)):=lH (by unfold aDF;rw [DM.o]);have y7:=fI.o.cell 7;have yl:=fI.o.lt;have yf:=fI.o.frozen;clear bH SY dJ;rcases halt with ⟨hh,rfl⟩ | ⟨hh,g2,rfl,lE,SN⟩
     ·have HNR:Hid (¬aDE x):=lH fun h=>aFO.o.1 h hh
      clear hh aFO IP
      go_wp2_with fail
      go_end0
      exact ⟨rfl,HGR.o _,HKM.o _,none,0,0,nR.o _,fun h=>absurd h HNR.o⟩
     ·have aW2:Hid (∀ u,jZ (w1.setCell ⟨g,7,none⟩ u) (w1.setCell ⟨g,7,none⟩ u).heap.size (some ⟨g2,0,none⟩) n6 (aDF x)):=lH fun u=>by
       rw [IP.o];refine jZ.keepm (m:=⟨A0,n0,c0,A1,n1,c1,A2,n2,c2,A3,n3,c3,A4,n4,c4,A5,n5,c5,A6,n6,c6⟩) SN fI.o (fun b off e=>?_) (by decide) u;injection e with e;injection e with e1 e2;have:=HG.o.lt;have:=I8.o;have:=HWL.o;omega
      clear hh SN aFO IP
      go_wp2_with fail
      go_end0
      exact ⟨rfl,HGR.o _,HKM.o _,some ⟨g2,0,none⟩,n6,n6,nR.o _,fun h=>⟨DM.o.symm,aW2.o _⟩⟩
end

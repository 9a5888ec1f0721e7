import Derived.Test.YthgdchffeigkbaaGreatDoorX23
set_option linter.unusedVariables false
set_option linter.unusedSimpArgs false
namespace Go.Proofs.YthgdchffeigkbaaGreatDoor
set_option maxHeartbeats 4000000
set_option maxRecDepth 100000
section
open Go.ChangeShapes Go.WideShapes Go.ChangeAt Go.RowKit
attribute [local go_sem ↓] aE
attribute [local go_sem] aK aH aM aY
def aQV (x:bE) (ms:List Mi) (w:Wo) (e:Ending) (w':Wo):Prop:=Below w.heap.size w w'/\∃ A c hs b0,e=.returned (.slice A ms.length c)/\w.heap.size<=b0/\gF w' b0 (.slice A ms.length c) hs (aR x ms)/\ms.length<=c/\c<=maxLen
theorem gF.far {w:Wo} {base g T i:Nat} {v u y:Value} {hs:List Hd} {M:List (List Rat)} {cs:Array Value} (m:gF w base v hs M) (hb:aG w g T cs) (h1:115≠T) (h2:93≠T) (hy:cs[i]?=some y) (hn:uZ y):gF (w.setCell ⟨g,i,none⟩ u) base v hs M:=
 ⟨m.own.far hb h2,m.len,fun j h q hh hq=>by
  obtain ⟨B,us,k⟩:=m.rows j h q hh hq;exact ⟨B,us,k.far hb h1 hy hn⟩⟩
theorem T4 (h:cE) (x:bE) (ok:cN x) (h8:x.nodes.length<=8) (g:Nat) (m:iZ) (y:Value) (A:OA) (n c:Nat) (ms:List Mi) (w:Wo) (r:cS w w.heap.size h x) (hg:aG w g 122 (m.cells y)) (hr:fG w w.heap.size m x) (hm:eG w w.heap.size A n ms) (hn:n<=64) (pY:∀ m∈ms,nV x m) :
    Calls Tryz.prog 82 #[.agg h.cells,.pointer (some ⟨g,0,none⟩),.slice A n c] w (aQV x ms w):=by
 have K0:Below w.heap.size w (w.alloc (.cells h.cells 29)):=bA;have HK:=lH K0;have P0:=lH (aG.new w 29 h.cells);have HG:=lH (hg.bl K0);have HR:=lH (hr.up K0);have HX:=lH (r.up K0);have HM:=lH (hm.bm K0);have j_:Hid (ms.length=n):=lH hm.1;have cH:=lH ok;have HMK:=lH pY;have dW:Hid (w.heap.size<=(w.alloc (.cells h.cells 29)).heap.size):=lH K0.size;clear K0 hg hr hm r pY ok;obtain ⟨D0,r0,s0,D1,r1,s1,D2,r2,s2,D3,r3,s3,D4,r4,s4,D5,r5,s5⟩:=h;go_enter Tryz.func82,Tryz.ntmps82
 go_wp2_with fail
 generalize w.alloc (.cells (cE.cells ⟨D0,r0,s0,D1,r1,s1,D2,r2,s2,D3,r3,s3,D4,r4,s4,D5,r5,s5⟩) 29)=W at *
 go_loopw [7,12] (fun v7 v12 wr=>∃ (k:Nat) (hs:List Hd),k<=n/\v12=.int .i64 k/\gF wr W.heap.size v7 hs ((aR x ms).take k)/\Below W.heap.size W wr) (fun _ v12 _=>n-(intOf v12).toNat)
 case atStart=>exact ⟨0,[],by omega,rfl,FV _ _,bR⟩
 case round=>
  obtain ⟨k,hs,hk,rfl,ho,hb⟩:=hrel;have HO:=lH ho;have HB:=lH hb;clear ho hb
  by_cases aW:k<n
  ·obtain ⟨mi,jS⟩:∃ mi,ms[k]?=some mi:=eO (by have:=j_.o;omega)
   have OJ:=lH (O8 (x:=x) jS);have tA:=lH (HMK.o mi (cO jS));have pS:=(HM.o.below HB.o lR).more HB.o.size;have U1:=pS.2.2 (by omega);obtain ⟨ab,ao,hA,oS,-⟩:=U1;subst hA;obtain ⟨a0,a1,a2,a3⟩:=pS.at_ jS;have fT:(k:Int)<(n:Int):=by omega
   have kF:=lZ k
   have qW:=kU k;have l_:=lN k;have jW:Hid (n-(k+1)<n-k):=lH (by omega);clear jS pS
   go_upto_region 5 with fail
   clear a0 a1 a2 a3 oS fT kF qW;have hz:Below wr.heap.size wr (wr.alloc (.cells #[.int .i64 mi.kind,.string mi.name,.string mi.txt,.int .i64 mi.wt] 57)):=bA;have nR:=lH (aG.new wr 57 #[.int .i64 mi.kind,.string mi.name,.string mi.txt,.int .i64 mi.wt]);replace HO:=lH (HO.o.keep hz);have fZ:Hid (Below W.heap.size W (wr.alloc (.cells #[.int .i64 mi.kind,.string mi.name,.string mi.txt,.int .i64 mi.wt] 57))):=lH (HB.o.tm hz);clear hz HB;generalize wr.alloc (.cells #[.int .i64 mi.kind,.string mi.name,.string mi.txt,.int .i64 mi.wt] 57)=wa at *;have P0w:=P0.o.bl fZ.o;obtain ⟨y0,y1,y2,y3,y4,y5,nf,nlt⟩:=a_ P0w;dsimp only at y0 y1 y2 y3 y4 y5;have x0:=nR.o.cell 0;have x1:=nR.o.cell 1;have x2:=nR.o.cell 2;have x3:=nR.o.cell 3;have xl:=nR.o.lt;clear P0w
   go_wp2_with fail
   refine (mW _ x cH.o h8 g m y mi wa (HX.o.up fZ.o) (HG.o.bl fZ.o) (HR.o.up fZ.o) tA.o.1 tA.o.2).mono ?_;rintro e w5 ⟨eD,gc,u,rfl,hq,hv⟩;clear y0 y1 y2 y3 y4 y5 nf nlt x0 x1 x2 x3 xl;have dX:=lH (fZ.o.tm eD);replace HO:=lH (HO.o.keep eD);have HQ:=lH hq;clear eD hq hv fZ
   go_wp2_with fail
   refine (F6 g m y x cH.o h8 u (some ⟨gc,0,none⟩) (aI x) (aI x) (aS x mi).1 w5 (HG.o.bl dX.o) (HR.o.up dX.o) HQ.o rfl).mono ?_;rintro e w6 ⟨fQ,B6,v6,us,hB6,rfl,bF⟩;have fV:=lH (dX.o.tm fQ);replace HO:=lH (HO.o.keep fQ);have HW6:=lH bF;obtain ⟨A',c',X1,-⟩:=bF.rd;subst X1;have J1:Hid (W.heap.size<=w6.heap.size):=lH fV.o.size;clear fQ hB6 bF dX HQ
   go_wp2_with (at_builtin;refine xE rfl (.tmp 16) (.tmp 23) _ rfl W.heap.size Tryz.underlying92 u7 hs _ rfl HO.o B6 _ us _ HW6.o rfl ?k1 J1.o ?_)
   case k1=>rw [jP];omega
   intro v' w8 hs' hrows e_;have oY:=lH hrows;have dF:=lH (fV.o.trans e_);clear hrows e_
   go_wp2_with fail
   go_roundw
   case rel=>exact ⟨k+1,hs',aW,aQ l_.o,by rw [OJ.o];exact oY.o,dF.o⟩
   case measure=>exact jW.o
  ·have lS:k=n:=by omega
   have rX:(aR x ms).length=n:=by unfold aR;rw [lB];exact j_.o
   have Y2:Hid (gF wr W.heap.size u7 hs (aR x ms)):=lH (by
    have h:=HO.o;rw [nW (by omega)] at h;exact h)
   have fT:¬(k:Int)<(n:Int):=by omega
   obtain ⟨A',c',hv,jY,h1,h2⟩:=Y2.o.rd;rw [rX] at hv jY h1;subst hv;have HO2:Hid (gF wr W.heap.size (.slice A' n c') hs (aR x ms)):=Y2;clear jY rX
   go_wp2_with fail
   go_ret;exact ⟨HK.o.trans (HB.o.mono dW.o),A',c',hs,W.heap.size,by rw [j_.o];rfl,dW.o,by rw [j_.o];exact HO2.o,by rw [j_.o];exact h1,h2⟩
end

import Derived.Test.YtonlblmobjhjjaaGreatDoorW09
import Derived.Test.YtonlblmobjhjjaaGreatDoorW10
set_option linter.unusedVariables false
set_option linter.unusedSimpArgs false
namespace Go.Proofs.YtonlblmobjhjjaaGreatDoor
set_option maxHeartbeats 4000000
set_option maxRecDepth 100000
variable {A : OA} {B B' D k n : Nat} {fl part ss : List ByteArray} {q : Rat} {w w' : World} {x : bP}
section
open Go.ChangeShapes Go.WideShapes Go.ChangeAt Go.RowKit Go.Joins
section
variable {P:Program}
theorem DD{S:Value->Prop}(w:Wo)(base:Nat)(t ty e:TypeId)(i:TypeInfo)(z:Value)(size bytes:Nat)(ht:P.underlying t=some (.slice e))(hi:P.info? e=some i)(hz:i.zero=some z)(eW:i.size=size)(sV:i.bytes=bytes)(v:Value)(n:Nat)(xs:List Value)(bB:bO S w base e size v n xs)(a:Addr)(m c:Nat)(news:List Value)(hl:news.length=m*size)(uT:∀j u,news[j]?=some u->w.cell? (a.add j)=some u)(h1:∀u∈news,u.oneCell'=true)(yO:n+m<=maxLen)(eK:(n+m)*bytes<=140737488355328)(hm:0<m){v':Value}{w':Wo}(hr':(Builtin.append_ #[t,t] ty #[v,.slice (some a) m c]).run P w=.ok v' w'):∀k,k<w.heap.size->v.ownBlock≠some k->w'.heap[k]?=w.heap[k]?:=by
 subst eW;subst sV;have aEh:n+m<=9223372036854775807:=by simp only[maxLen] at yO;omega
 rcases bB.2 with⟨rfl,rfl⟩ | ⟨g,cap,cur,rfl,hbg,hg,GU,JI,TT,XA,hS⟩
 ·have hr:=run_append_nil (P:=P) w t ty e i z ht hi hz a m c news hl uT hm (by omega) (by have hb:=eK;rw[Nat.zero_add] at hb;omega)
  rw[hr'] at hr;injection hr with _ hr;subst hr;intro k hk _;exact heap_alloc_old w.drew _ hk
 ·by_cases uR:n+m<=cap
  ·have rW:n*i.size+news.length<=cur.size:=by rw[hl,TT,<-Nat.add_mul];exact Nat.mul_le_mul_right _ uR
   have hr:=run_append_room (P:=P) w t ty e i ht hi g n cap cur hg a m c news hl uT (fun u hu=>h1 u hu) uR rW;rw[hr'] at hr;injection hr with _ hr;subst hr;intro k hk cK;exact setRow_other w g k _ (fun e=>cK (by rw[e];rfl))
  ·have holds:∀j u,xs[j]?=some u->w.cell? ((⟨g,0,none⟩:Addr).add j)=some u:=bB.own.cells (g:=g) rfl
   have hr:=run_append_grow (P:=P) w t ty e i z ht hi hz ⟨g,0,none⟩ n cap xs bB.1 holds a m c news hl uT (by omega) (by omega) (growslice_fits (by omega) eK);rw[hr'] at hr;injection hr with _ hr;subst hr;intro k hk _;exact heap_alloc_old w.drew _ hk
theorem zU{S:Value->Prop}{o:Oper}{a:Act}{w:Wo}{K:Act->World->Prop}{Q:Exit->Act->World->Prop}(s x:Operand)(t:TypeId)(ho:o.op=.call { callee:=.builtin .append,args:=#[s,x],argTypes:=#[t,t] })(base:Nat)(e:TypeId)(i:TypeInfo)(z:Value)(size bytes:Nat)(ht:P.underlying t=some (.slice e))(hi:P.info? e=some i)(hz:i.zero=some z)(eW:i.size=size)(sV:i.bytes=bytes)(zJ:z.cells.size=size)(gP:0<size)(K7:∀u∈z.cells.toList,S u)(v:Value)(n:Nat)(xs:List Value)(hs:a.eval s=v)(bB:bO S w base e size v n xs)(g T:Nat)(lit:Array Value)(hx:a.eval x=.slice (some ⟨g,0,none⟩) 1 1)(hg:aD w g T lit)(hl:lit.size=size)(h1:∀u∈lit.toList,u.oneCell'=true/\S u)(yO:n+1<=maxLen)(eK:(n+1)*bytes<=140737488355328)(cP:base<=w.heap.size)(h:∀v' w',bO S w' base e size v' (n+1) (xs++lit.toList)->dZ S base e w w'->(v'.ownBlock=v.ownBlock\/v'.ownBlock=some w.heap.size)->(∀k,k<w.heap.size->v.ownBlock≠some k->w'.heap[k]?=w.heap[k]?)->K (a.put o.dst v') w'):o.wp P a w K Q:=by
 have hn:∀j u,lit.toList[j]?=some u->w.cell? ((⟨g,0,none⟩:Addr).add j)=some u:=fun j u hu=>by
  rw[Addr.add_lit,Nat.zero_add,hg.cell j];simpa using hu
 have hll:lit.toList.length=1*size:=by rw[Array.length_toList,hl,Nat.one_mul]
 obtain⟨v',w',g1,g2,g3,g4⟩:=lA (P:=P) w base t o.type e i z size bytes ht hi hz eW sV zJ gP K7 v n xs bB ⟨g,0,none⟩ 1 1 lit.toList hll hn h1 yO eK cP (by decide);have g5:=DD (P:=P) w base t o.type e i z size bytes ht hi hz eW sV v n xs bB ⟨g,0,none⟩ 1 1 lit.toList hll hn (fun u hu=>(h1 u hu).1) yO eK (by decide) g1;unfold Oper.wp execOp;simp only[ho,resolve,invoke,builtin,Sem.run_bind,Sem.run_pure,Result.andThen_ok,List.map_toArray,List.map_cons,List.map_nil,hs,hx,g1];exact h v' w' g2 g3 g4 g5
theorem kK{S:Value->Prop}{o:Oper}{a:Act}{w:Wo}{K:Act->World->Prop}{Q:Exit->Act->World->Prop}(s x:Operand)(t:TypeId)(ho:o.op=.call { callee:=.builtin .append,args:=#[s,x],argTypes:=#[t,t] })(base:Nat)(e:TypeId)(i:TypeInfo)(z:Value)(size bytes:Nat)(ht:P.underlying t=some (.slice e))(hi:P.info? e=some i)(hz:i.zero=some z)(eW:i.size=size)(sV:i.bytes=bytes)(zJ:z.cells.size=size)(gP:0<size)(K7:∀u∈z.cells.toList,S u)(v:Value)(n:Nat)(xs:List Value)(hs:a.eval s=v)(bB:bO S w base e size v n xs)(g T:Nat)(lit:Array Value)(hx:a.eval x=.slice (some ⟨g,0,none⟩) 1 1)(hg:aD w g T lit)(hl:lit.size=size)(h1:∀u∈lit.toList,u.oneCell'=true/\S u)(yO:n+1<=maxLen)(eK:(n+1)*bytes<=140737488355328)(cP:base<=w.heap.size)(h:∀A m c w',bO S w' base e size (.slice A m c) (n+1) (xs++lit.toList)->dZ S base e w w'->((Value.slice A m c).ownBlock=v.ownBlock\/(Value.slice A m c).ownBlock=some w.heap.size)->(∀k,k<w.heap.size->v.ownBlock≠some k->w'.heap[k]?=w.heap[k]?)->K (a.put o.dst (.slice A m c)) w'):o.wp P a w K Q:=
 zU s x t ho base e i z size bytes ht hi hz eW sV zJ gP K7 v n xs hs bB g T lit hx hg hl h1 yO eK cP fun v' w' q1 q2 q3 q4=>by
  obtain⟨A,c,hv,_⟩:=q1.shape;subst hv;exact h A _ c w' q1 q2 q3 q4
end
theorem bO.lt{S:Value->Prop}{base e size:Nat}{v:Value}{xs:List Value}(h:bO S w base e size v n xs)(hk:v.ownBlock=some k):base<=k/\k<w.heap.size:=by
 rcases h.2 with⟨h1,_⟩ | ⟨g,cap,cur,h1,h2,h3,_⟩
 ·rw[h1] at hk;cases hk
 ·rw[h1] at hk
  injection hk with hk;subst hk;exact⟨h2,h3.lt⟩
theorem bO.apart{S:Value->Prop}{base e size:Nat}{v u:Value}{xs:List Value}(h:bO S w base e size u n xs)(ho:∀k,k<w.heap.size->v.ownBlock≠some k->w'.heap[k]?=w.heap[k]?)(cK:∀k,u.ownBlock=some k->v.ownBlock≠some k):bO S w' base e size u n xs:=by
 refine⟨h.1,?_⟩;rcases h.2 with h1 | ⟨g,cap,cur,h1,h2,h3,h4⟩
 ·exact .inl h1
 ·exact .inr ⟨g,cap,cur,h1,h2,(ho g h3.lt (cK g (by rw[h1];rfl))).trans h3,h4⟩
end
section
open Go.ChangeShapes Go.WideShapes Go.ChangeAt Go.RowKit
attribute [local go_sem ↓] aE
attribute [local go_sem] aJ aI aL aX
theorem EM{xs ys:List Rat}{p:Rat}(hp:xs[k]?=some p)(hq:ys[k]?=some q):cO ((List.zipWith (·*·) xs ys).take (k+1))=cO ((List.zipWith (·*·) xs ys).take k)+p*q:=by
 rw[fG (x:=p*q) (by rw[List.getElem?_zipWith,hp,hq]),nL]
theorem JX{xs ys:List Rat}{Z:Nat}(hn:xs.length=n)(ha:∀q∈xs,bM q<=Z)(hb:∀q∈ys,bM q<=Z)(k:Nat)(hk:k<=n):bM (cO ((List.zipWith (·*·) xs ys).take k))<=n*(2*Z+1)+1:=by
 have h1:((List.zipWith (·*·) xs ys).take k).length<=n:=by rw[kC,List.length_zipWith];omega
 refine eN (kL _ _ rfl (2*Z) fun q hq=>?_) ?_
 ·obtain⟨i,hi⟩:=List.getElem?_of_mem (List.mem_of_mem_take hq)
  rw[List.getElem?_zipWith] at hi;cases h1:xs[i]? with
  | none=>rw[h1] at hi;simp at hi
  | some x=>
   cases h2:ys[i]? with
   | none=>rw[h1,h2] at hi;simp at hi
   | some y=>
    rw[h1,h2] at hi;simp at hi;subst hi;have:=mV x y;have:=ha x (cS h1);have:=hb y (cS h2);omega
 ·have:=Nat.mul_le_mul_right (2*Z+1) h1
  omega
theorem DM(h:q=0):q.num.sign=0:=by subst h;rfl
theorem OF(h:q≠0):(q.num.sign != 0)=true:=by
 have:q.num≠0:=fun e=>h (Rat.num_eq_zero.1 e);have:q.num.sign≠0:=fun e=>this (Int.sign_eq_zero_iff_zero.1 e);simpa using this
theorem aB9(A:OA)(n c:Nat)(B:OA)(m d:Nat)(xs ys:List Rat)(Z:Nat)(w:Wo)(hA:hO w w.heap.size A n xs)(hB:hO w w.heap.size B m ys)(GT:n<=m)(hn:n<=9223372036854775807)(ha:∀q∈xs,bM q<=Z)(hb:∀q∈ys,bM q<=Z)(hz:n*(2*Z+1)+2*Z+2<=35184372088832):Calls Tryz.prog 123 #[.slice A n c,.slice B m d] w (QP (JY xs ys) w):=by
 obtain⟨HA,HB,vR,kB,Z_⟩:=mP hA hB hA.len hB.len ha;obtain⟨HQB,HZ,p5⟩:=eR hb hz GT;have cI:Hid (Below w.heap.size w ((w.alloc dC))):=lH (bA);have HR:Hid (aD ((w.alloc dC)) w.heap.size 87 #[.bool false,.slice none 0 0,.bool false,.slice none 0 0]):=lH (aD.new w _ _);clear hA hB ha hb hz GT;go_enter Tryz.func123,Tryz.ntmps123
 go_upto_region 1 with fail
 generalize ((w.alloc dC))=W at *
 go_wp2_with fail
 refine(oQ 0 W (by decide) (by decide)).mono ?_;rintro e w1 ⟨bG,v1,rfl,h1⟩;have cR:=bX cI bG;have nI:=lH (HR.o.bl bG);have H1:=lH h1;clear bG h1 HR
 go_wp2_with fail
 generalize lQ:w1.alloc (.cells #[.bool v1.b1,.slice v1.A v1.n v1.c,.bool v1.b2,.slice v1.A2 v1.m v1.d] 87)=wa;have fP:Below w1.heap.size w1 wa:=by rw[<-lQ];exact bA
 have kZ:Hid (aD wa w1.heap.size 87 #[.bool v1.b1,.slice v1.A v1.n v1.c,.bool v1.b2,.slice v1.A2 v1.m v1.d]):=lH (by rw[<-lQ];exact aD.new w1 _ _);have G2:=bX cR fP;have r_:=lH (nI.o.bl fP);have HVA:Hid (cY wa wa.heap.size (0:Rat) v1):=lH (by have:=H1.o.up fP;simpa using this);have p_:Hid (w.heap.size<w1.heap.size):=lH nI.o.lt;clear lQ fP;generalize w1.heap.size=g at *
 go_loopw [10] (fun v10 wr=>∃(k:Nat)(v:Rv),k<=n/\v10=.int .i64 k/\Below w.heap.size w wr/\aD wr w.heap.size 87 #[.bool false,.slice none 0 0,.bool false,.slice none 0 0]/\aD wr g 87 #[.bool v.b1,.slice v.A v.n v.c,.bool v.b2,.slice v.A2 v.m v.d]/\cY wr wr.heap.size (cO ((List.zipWith (·*·) xs ys).take k)) v) (fun v10 _=>n-(intOf v10).toNat)
 case atStart=>exact⟨0,v1,by omega,rfl,G2.o,r_.o,kZ.o,by rw[List.take_zero];exact HVA.o⟩
 case round=>
  obtain⟨k,v,hk,rfl,hb,hr,hg,hv⟩:=hrel;obtain⟨HK,HR,HG,HV⟩:=gO hb hr hg hv;clear hb hr hg hv;by_cases aR:k<n
  ·obtain⟨x,hx⟩:∃x,xs[k]?=some x:=eG (by have:=vR.o;omega)
   obtain⟨y,hy⟩:∃y,ys[k]?=some y:=eG (by have:=kB.o;have:=p5.o;omega);obtain⟨ab,ao,sX,iI⟩:=HA.o.form (by omega);subst sX;obtain⟨bb,bo,JL,pY⟩:=HB.o.form (by have:=p5.o;omega);subst JL;obtain⟨HS,HQX,HQY,N0⟩:=gO (EM hx hy) (Z_.o x (cS hx)) (HQB.o y (cS hy)) (JX vR.o Z_.o HQB.o k hk);obtain⟨vx,a0,a1,a2,a3,a4⟩:=(HA.o.below HK.o lR).at_ hx;have HX:=lH hx;have HY:=lH hy;have JJ:ab<wr.heap.size:=jJ iI HK.o.size;have aB0:bb<wr.heap.size:=jJ pY HK.o.size;have HLX:=lH iI;have HLY:=lH pY;clear hx hy iI pY;have iM:(k:Int)<(n:Int):=by omega
   have hkm:(k:Int)<(m:Int):=by have:=p5.o;omega
   have aTe:k<m:=by have:=p5.o;omega
   have gB:=lN k;have e_:Hid (n-(k+1)<n-k):=lH (by omega);have HVX:=lH ((cY.more (w:=wr) a4 HK.o.size));clear a4;(go_wp2_with fail);refine(xP HVX.o).mono ?_;clear a0 a1 a2 a3;rintro e w2 ⟨rfl,bV⟩;have rN:=bX HK bV;obtain⟨qU,fW,yQ,aJm⟩:=gO (HR.o.bl bV) (HG.o.bl bV) (HV.o.up bV) (HVX.o.up bV);clear bV HR HG;by_cases OU:x=0
   ·have hz:=DM OU
    rw[hz];have HE:Hid (cO ((List.zipWith (·*·) xs ys).take (k+1))=cO ((List.zipWith (·*·) xs ys).take k)):=lH (by rw[HS.o,OU,Rat.zero_mul,Rat.add_zero]);clear hz OU;(go_wp2_with fail);go_roundw
    case rel=>exact⟨k+1,v,aR,aM gB.o,rN.o,qU.o,fW.o,by rw[HE.o];exact yQ.o⟩
    case measure=>exact e_.o
   ·have hz:=OF OU
    generalize x.num.sign=z at hz ⊢;clear OU;obtain⟨vy,a0,a1,a2,a3,a4⟩:=(HB.o.below rN.o lR).at_ HY.o;have aNS:=lH (cY.more (w:=w2) a4 rN.o.size);have aNa:bb<w2.heap.size:=jJ HLY.o rN.o.size;clear a4;(go_wp2_with fail);refine(xP aNS.o).mono ?_;clear a0 a1 a2 a3;rintro e w3 ⟨rfl,eF⟩;have KX:=bX rN eF;obtain⟨E5,GN,DF⟩:=eR (qU.o.bl eF) (fW.o.bl eF) (yQ.o.up eF);clear eF;by_cases uP:y=0
    ·have kS:=DM uP
     rw[kS];have HE:Hid (cO ((List.zipWith (·*·) xs ys).take (k+1))=cO ((List.zipWith (·*·) xs ys).take k)):=lH (by rw[HS.o,uP,Rat.mul_zero,Rat.add_zero]);clear kS uP;(go_wp2_with fail);go_roundw
     case rel=>exact⟨k+1,v,aR,aM gB.o,KX.o,E5.o,GN.o,by rw[HE.o];exact DF.o⟩
     case measure=>exact e_.o
    ·have kS:=OF uP
     generalize y.num.sign=z2 at kS ⊢;clear uP;(go_upto_region 6 with fail);clear hz kS;obtain⟨vx,a0,a1,a2,a3,a4⟩:=(HA.o.below KX.o lR).at_ HX.o;have aNT:=lH (cY.more (w:=w3) a4 KX.o.size);obtain⟨vy,d0,d1,d2,d3,d4⟩:=(HB.o.below KX.o lR).at_ HY.o;have aNR:=lH (cY.more (w:=w3) d4 KX.o.size);have aNd:ab<w3.heap.size:=jJ HLX.o KX.o.size;have aM_:bb<w3.heap.size:=jJ HLY.o KX.o.size;clear a4 d4;obtain⟨p0,p1,p2,p3,pl⟩:=GN.o.b4;have bH:=lH (aH (Below.refl w3.heap.size w3));refine bC (S:=fun w'=>Below w3.heap.size w3 w') 11 _ (by kernel_rfl) (by kernel_rfl) rfl bH.o (fun hHeld=>?_);simp only[oO,List.take_zero];refine d7 [0,1,2,3,4,5,6,7,8] ?_;refine bI 9 (fun K hK=>?_);go_simp;refine(WG (aNT.o.up bH.o) (aNR.o.up bH.o) (by have:=HQX.o;have:=HQY.o;have:=HZ.o;omega)).mono ?_;rintro e w5 ⟨eS,v5,rfl,h5⟩;have dK:=bX bH eS;have H5:=lH h5;clear eS h5;go_simp;refine iJ hK dK.o (fun hHeld=>?_);clear hK K;refine bI 10 (fun K hK=>?_);go_simp;refine(B5 (DF.o.up dK.o) H5.o (by have:=mV x y;have:=HQX.o;have:=HQY.o;have:=N0.o;have:=HZ.o;omega)).mono ?_;rintro e w6 ⟨eE,v6,rfl,h6⟩;have d6:=bX dK eE;have H6:=lH h6;clear eE h6;go_simp;refine iJ hK d6.o (fun hHeld=>?_);clear hK K;refine fZ ?_;obtain⟨GL,HRF,nE⟩:=eR (KX.o.tm d6.o) (E5.o.bl d6.o) (GN.o.bl d6.o);clear p0 p1 p2 p3 pl a0 a1 a2 a3 d0 d1 d2 d3 JJ aNd aB0 aNa aM_;obtain⟨p0,p1,p2,p3,pf,pl⟩:=nE.o.e4;(go_wp2_with fail);go_roundw
     case rel=>exact⟨k+1,v6,aR,aM gB.o,eL GL.o (qY p_.o),CU HRF.o (Nat.ne_of_lt p_.o),FJ nE.o,by rw[HS.o];exact H6.o.keepq nE.o⟩
     case measure=>exact e_.o
  ·have pP:k=n:=by omega
   subst pP;have iM:¬(k:Int)<(k:Int):=by omega
   have HE:Hid (cY wr wr.heap.size (JY xs ys) v):=lH (by
    have h:=HV.o;rw[oP (by rw[List.length_zipWith,vR.o];omega)] at h;exact h)
   obtain⟨p0,p1,p2,p3,pl⟩:=HG.o.b4;obtain⟨z0,z1,z2,z3,zf,zl⟩:=HR.o.e4;(go_wp2_with fail);clear p0 p1 p2 p3 pl z0 z1 z2 z3 zf zl;have HX:=lH (FJ (v:=v) (x:=sD) HR.o);have eU:=lH (eL (v:=v) HK.o lR);have HV9:=lH (HE.o.keepq (v:=v) (x:=sD) HR.o);unfold oU at eU;generalize (((wr.setCell ⟨_,0,none⟩ _).setCell ⟨_,1,none⟩ _).setCell ⟨_,2,none⟩ _).setCell ⟨_,3,none⟩ _=W9 at *;obtain⟨q0,q1,q2,q3⟩:=HX.o.a4;exact bodyPost_ret (v:=.agg #[.bool v.b1,.slice v.A v.n v.c,.bool v.b2,.slice v.A2 v.m v.d]) (by simp[results,Tryz.results123,go_sem,q0,q1,q2,q3]) rfl ⟨eU.o,v,rfl,HV9.o⟩
def fT(m:Nat)(ss:List ByteArray):Int:=if m<ss.length then 2 else dA ss
theorem vA{m:Nat}:fT m ss=0<->ss.length<=m/\∀s∈ss,dM s.data.toList=0:=by
 unfold fT;by_cases h:m<ss.length
 ·rw[if_pos h];constructor
  ·intro e;cases e
  ·intro e;omega
 ·rw[if_neg h,nX]
  exact⟨fun e=>⟨by omega,e⟩,fun e=>e.2⟩
theorem BX(A:OA)(n c:Nat)(ss:List ByteArray)(w:Wo)(hR:aW w w.heap.size A n ss)(hs:∀s∈ss,s.size<=maxLen)(hn:n<=9223372036854775807)(ht:eY w):Calls Tryz.prog 79 #[.slice A n c] w fun e w'=>e=.returned (.int .i64 (fT 256 ss))/\Below w.heap.size w w':=by
 have HC:=lH (EV A n c ss w hR hs hn ht);have HL:=lH hR.1;clear hR hs ht;go_enter Tryz.func79,Tryz.ntmps79
 by_cases h:256<n
 ·have HE:Hid (fT 256 ss=2):=lH (by unfold fT;rw[if_pos (by rw[HL.o];exact h)])
  have hI:(256:Int)<(n:Int):=by omega
  (go_wp2_with fail);go_ret;exact⟨by rw[HE.o];rfl,bR⟩
 ·have HE:Hid (fT 256 ss=dA ss):=lH (by unfold fT;rw[if_neg (by rw[HL.o];exact h)])
  have hI:¬(256:Int)<(n:Int):=by omega
  (go_wp2_with fail);refine HC.o.mono ?_;rintro e w1 ⟨rfl,hb⟩;have HB:=lH hb;clear hb HC;generalize dA ss=z at *;(go_wp2_with fail);go_ret;exact⟨by rw[HE.o];rfl,HB.o⟩
theorem aD3(h:bJ q):rnS q=eH q:=if_pos h
theorem U6(h:bJ q):rnE q=0:=if_pos h
theorem AI{xs:List ByteArray}(h:∀s∈xs,dM s.data.toList=0):∀q∈xs.map fB,bM q<=2000:=fun q hq=>by
 obtain⟨s,hs,rfl⟩:=List.mem_map.1 hq;exact JQ (zY (h s hs))
def iA(qs:List Rat):Rat:=cO (qs.map lB) / 2
def aI1(qs:List Rat)(w:Wo)(e:Ending)(w':Wo):Prop:=Below w.heap.size w w'/\∃v u:Rv,e=.returned (.tuple #[.agg #[.bool v.b1,.slice v.A v.n v.c,.bool v.b2,.slice v.A2 v.m v.d],.agg #[.bool u.b1,.slice u.A u.n u.c,.bool u.b2,.slice u.A2 u.m u.d]])/\cY w' w'.heap.size (cO qs) v/\cY w' w'.heap.size (iA qs) u
theorem HJ(A:OA)(n c:Nat)(ss:List ByteArray)(w:Wo)(hR:aW w w.heap.size A n ss)(hc:fT 256 ss=0):Calls Tryz.prog 80 #[.slice A n c] w (aI1 (ss.map fB) w):=by
 obtain⟨h1,h2⟩:=vA.1 hc;have hn:n<=256:=by rw[<-hR.1];exact h1
 obtain⟨HR,HV,HQ⟩:=eR hR h2 (AI h2);have HL:Hid ((ss.map fB).length=n):=lH (by rw[kJ];exact hR.1);have cI:Hid (Below w.heap.size w ((w.alloc dC).alloc dC)):=lH ((bA).alloc (by simp) _);have dE:Hid (aD ((w.alloc dC).alloc dC) w.heap.size 87 #[.bool false,.slice none 0 0,.bool false,.slice none 0 0]):=lH ((aD.new w _ _).alloc _);have eT:Hid (aD ((w.alloc dC).alloc dC) (w.heap.size+1) 87 #[.bool false,.slice none 0 0,.bool false,.slice none 0 0]):=lH (aD.new_ (by simp));clear hR hc h1 h2;go_enter Tryz.func80,Tryz.ntmps80
 go_upto_region 1 with fail
 generalize ((w.alloc dC).alloc dC)=W at *
 go_wp2_with fail
 refine(oQ 0 W (by decide) (by decide)).mono ?_;rintro e w1 ⟨bG,v1,rfl,h1⟩;have cR:=bX cI bG;obtain⟨pD,r9,H1⟩:=eR (dE.o.bl bG) (eT.o.bl bG) h1;clear bG h1
 go_wp2_with fail
 refine(oQ 0 w1 (by decide) (by decide)).mono ?_;rintro e w2 ⟨bV,v2,rfl,h2⟩;have dB:=bX cR bV;replace pD:=lH (pD.o.bl bV);replace r9:=lH (r9.o.bl bV);replace H1:=lH (H1.o.up bV);have H2:=lH h2;clear bV h2
 go_wp2_with fail
 generalize lQ:(w2.alloc (.cells #[.bool v1.b1,.slice v1.A v1.n v1.c,.bool v1.b2,.slice v1.A2 v1.m v1.d] 87)).alloc (.cells #[.bool v2.b1,.slice v2.A v2.n v2.c,.bool v2.b2,.slice v2.A2 v2.m v2.d] 87)=wa;have fP:Below w2.heap.size w2 wa:=by rw[<-lQ];exact(bA).alloc (by simp) _
 have nC:Hid (aD wa w2.heap.size 87 #[.bool v1.b1,.slice v1.A v1.n v1.c,.bool v1.b2,.slice v1.A2 v1.m v1.d]):=lH (by rw[<-lQ];exact(aD.new w2 _ _).alloc _);have jR:Hid (aD wa (w2.heap.size+1) 87 #[.bool v2.b1,.slice v2.A v2.n v2.c,.bool v2.b2,.slice v2.A2 v2.m v2.d]):=lH (by rw[<-lQ];exact aD.new_ (by simp));have G2:=bX dB fP;replace pD:=lH (pD.o.bl fP);have p_:Hid (w.heap.size+1<w2.heap.size):=lH r9.o.lt;replace r9:=lH (r9.o.bl fP);replace H1:=lH (H1.o.up fP);replace H2:=lH (H2.o.up fP);refine(FM A n c ss wa (HR.o.bm G2.o) HV.o (by omega)).mono ?_;clear lQ fP;rintro e w3 ⟨eF,A3,n3,c3,rfl,h3,-,-,hfr⟩;have hn3:n3=n:=by rw[<-h3.len];exact HL.o
 subst hn3;have gY:=bX G2 eF;replace pD:=lH (pD.o.bl eF);replace r9:=lH (r9.o.bl eF);have HGT:Hid (w2.heap.size+1<wa.heap.size):=lH jR.o.lt;replace nC:=lH (nC.o.bl eF);replace jR:=lH (jR.o.bl eF);replace H1:Hid (cY w3 w3.heap.size (cO []) v1):=lH (by have:=H1.o.up eF;exact this);replace H2:Hid (cY w3 w3.heap.size (cO []) v2):=lH (by have:=H2.o.up eF;exact this);have H3:=lH h3;have TD:Hid (0<n3->∃b off,A3=some ⟨b,off,none⟩/\w2.heap.size+1<b):=lH fun h=>by
  obtain⟨b,off,e,hb⟩:=hfr h;exact⟨b,off,e,jJ HGT.o hb⟩
 clear eF h3 hfr;generalize w2.heap.size=g at *
 go_wp2_with fail
 go_loopw [13] (fun v13 wr=>∃(k:Nat)(v u:Rv),k<=n3/\v13=.int .i64 k/\Below w.heap.size w wr/\aD wr w.heap.size 87 #[.bool false,.slice none 0 0,.bool false,.slice none 0 0]/\aD wr (w.heap.size+1) 87 #[.bool false,.slice none 0 0,.bool false,.slice none 0 0]/\aD wr g 87 #[.bool v.b1,.slice v.A v.n v.c,.bool v.b2,.slice v.A2 v.m v.d]/\aD wr (g+1) 87 #[.bool u.b1,.slice u.A u.n u.c,.bool u.b2,.slice u.A2 u.m u.d]/\cY wr wr.heap.size (cO ((ss.map fB).take k)) v/\cY wr wr.heap.size (cO (((ss.map fB).take k).map lB)) u/\hO wr wr.heap.size A3 n3 (ss.map fB)) (fun v13 _=>n3-(intOf v13).toNat)
 case atStart=>exact⟨0,v1,v2,by omega,rfl,gY.o,pD.o,r9.o,nC.o,jR.o,by rw[List.take_zero];exact H1.o,by rw[List.take_zero];exact H2.o,H3.o⟩
 case round=>
  clear pD r9 nC jR;obtain⟨k,v,u,hk,rfl,hb,MW,uS,EF,iH,hv,hu,hd⟩:=hrel;obtain⟨HK,pD,r9,nC,jR⟩:=mP hb MW uS EF iH;obtain⟨mM,yQ,HD⟩:=eR hv hu hd;clear hb MW uS EF iH hv hu hd;by_cases aR:k<n3
  ·obtain⟨q,hq⟩:∃q,(ss.map fB)[k]?=some q:=eG (by have:=HL.o;omega)
   obtain⟨ab,ao,sX,iI⟩:=HD.o.form (by omega);have aVh:=lH (TD.o (by omega));subst sX;obtain⟨x,a0,a1,a2,a3,a4⟩:=HD.o.at_ hq;have HX:=lH a4;have HQQ:=lH (HQ.o q (cS hq));have tL:Hid (cO ((ss.map fB).take (k+1))=cO ((ss.map fB).take k)+q):=lH (by rw[fG hq,nL]);have N9:Hid (cO (((ss.map fB).take (k+1)).map lB)=cO (((ss.map fB).take k).map lB)+lB q):=lH (by rw[fG hq,List.map_append];exact nL _ _);have HZ1:Hid (bM (cO ((ss.map fB).take k))<=600000):=lH (by
    have:=kL _ ((ss.map fB).take k) rfl 2000 (fun q h=>HQ.o q (List.mem_of_mem_take h));rw[kC] at this;have h2:min k (ss.map fB).length<=256:=by omega
    have:=Nat.mul_le_mul_right 2001 h2;omega)
   have HZ2:Hid (bM (cO (((ss.map fB).take k).map lB))<=600000):=lH (by
    have:=kL _ (((ss.map fB).take k).map lB) rfl 2000 (fun q h=>by
     obtain⟨y,hy,rfl⟩:=List.mem_map.1 h;rw[qI];exact HQ.o y (List.mem_of_mem_take hy))
    rw[kJ,kC] at this;have h2:min k (ss.map fB).length<=256:=by omega
    have:=Nat.mul_le_mul_right 2001 h2;omega)
   clear hq a4;have iM:(k:Int)<(n3:Int):=by omega
   have gB:=lN k;have e_:Hid (n3-(k+1)<n3-k):=lH (by omega);(go_upto_region 5 with fail);clear a0 a1 a2 a3;generalize lQ:wr.alloc (.cells #[.bool x.b1,.slice x.A x.n x.c,.bool x.b2,.slice x.A2 x.m x.d] 87)=wa;have fP:Below wr.heap.size wr wa:=by rw[<-lQ];exact bA
   have PV:Hid (aD wa wr.heap.size 87 #[.bool x.b1,.slice x.A x.n x.c,.bool x.b2,.slice x.A2 x.m x.d]):=lH (by rw[<-lQ];exact aD.new wr _ _);replace HK:=lH (HK.o.tm fP);replace pD:=lH (pD.o.bl fP);replace r9:=lH (r9.o.bl fP);replace nC:=lH (nC.o.bl fP);replace jR:=lH (jR.o.bl fP);replace mM:=lH (mM.o.up fP);replace yQ:=lH (yQ.o.up fP);replace HX:=lH (HX.o.up fP);replace HD:=lH (HD.o.up fP);clear lQ fP;generalize wr.heap.size=gx at *;obtain⟨p0,p1,p2,p3,pl⟩:=nC.o.b4;obtain⟨d0,d1,d2,d3,dl⟩:=jR.o.b4;obtain⟨x0,x1,x2,x3,xl⟩:=PV.o.b4;have bH:=lH (aH (Below.refl wa.heap.size wa));refine fX (S:=fun w'=>Below wa.heap.size wa w') 7 _ _ (by kernel_rfl) (by kernel_rfl) (by kernel_rfl) rfl rfl (aH bR) (fun hHeld=>?_);simp only[oO,List.take_zero];refine d7 [0,1,3,4] ?_;refine bI 2 (fun K hK=>?_);go_simp;refine(B5 (mM.o.up bH.o) (HX.o.up bH.o) (by have:=HZ1.o;have:=HQQ.o;omega)).mono ?_;rintro e w5 ⟨eS,v5,rfl,h5⟩;have dK:=bX bH eS;have H5:=lH h5;clear eS h5;go_simp;refine iJ hK dK.o (fun hHeld=>?_);clear hK K;refine bI 5 (fun K hK=>?_);go_simp;refine(aIX (HX.o.up dK.o)).mono ?_;rintro e w6 ⟨eE,v6,rfl,h6⟩;have d6:=bX dK eE;have H6:=lH h6;replace H5:=lH (H5.o.up eE);clear eE h6;go_simp;refine iJ hK d6.o (fun hHeld=>?_);clear hK K;refine bI 6 (fun K hK=>?_);go_simp;refine(B5 (yQ.o.up d6.o) H6.o (by rw[qI];have:=HZ2.o;have:=HQQ.o;omega)).mono ?_;rintro e w7 ⟨fR,v7,rfl,h7⟩;have gN:=bX d6 fR;have H7:=lH h7;replace H5:=lH (H5.o.up fR);clear fR h7;go_simp;refine iJ hK gN.o (fun hHeld=>?_);clear hK K;refine fZ ?_;have GL:=lH (HK.o.tm gN.o);replace pD:=lH (pD.o.bl gN.o);replace r9:=lH (r9.o.bl gN.o);replace nC:=lH (nC.o.bl gN.o);replace jR:=lH (jR.o.bl gN.o);replace HD:=lH (HD.o.up gN.o);clear p0 p1 p2 p3 pl d0 d1 d2 d3 dl x0 x1 x2 x3 xl;obtain⟨p0,p1,p2,p3,pf,pl⟩:=nC.o.e4;go_simp;clear mM bH dK d6 H6 hHeld;clear p0 p1 p2 p3 pf pl;have X2:=eL (g:=g) (v:=v5) GL.o (by have:=p_.o;omega);replace pD:=lH (CU (g:=g) (v:=v5) pD.o (by have:=p_.o;omega));replace r9:=lH (CU (g:=g) (v:=v5) r9.o (by have:=p_.o;omega));replace jR:=lH (CU (g:=g) (v:=v5) jR.o (by have:=p_.o;omega));replace H5:=lH (H5.o.keepq (v:=v5) nC.o);replace H7:=lH (H7.o.keepq (v:=v5) nC.o);replace HD:=lH (hO.putq (v:=v5) HD.o nC.o (fun h=>by obtain⟨b,off,e,hb⟩:=TD.o h;exact⟨b,off,e,by omega⟩));replace nC:=lH (FJ (v:=v5) nC.o);replace GL:=lH X2;clear X2;unfold oU at GL HD;generalize (((w7.setCell ⟨g,0,none⟩ _).setCell ⟨g,1,none⟩ _).setCell ⟨g,2,none⟩ _).setCell ⟨g,3,none⟩ _=w8 at *;obtain⟨p0,p1,p2,p3,pf,pl⟩:=jR.o.e4;refine cJ (by rfl) ?_;(go_wp2_with fail);go_roundw
   case rel=>
    clear p0 p1 p2 p3 pf pl;have X2:=eL (g:=g+1) (v:=v7) GL.o (by have:=p_.o;omega);replace pD:=lH (CU (g:=g+1) (v:=v7) pD.o (by have:=p_.o;omega));replace r9:=lH (CU (g:=g+1) (v:=v7) r9.o (by have:=p_.o;omega));replace nC:=lH (CU (g:=g+1) (v:=v7) nC.o (by have:=p_.o;omega));replace H5:=lH (H5.o.keepq (v:=v7) jR.o);replace H7:=lH (H7.o.keepq (v:=v7) jR.o);replace HD:=lH (hO.putq (v:=v7) HD.o jR.o (fun h=>by obtain⟨b,off,e,hb⟩:=TD.o h;exact⟨b,off,e,by omega⟩));replace jR:=lH (FJ (v:=v7) jR.o);replace GL:=lH X2;clear X2;unfold oU at GL HD;generalize (((w8.setCell ⟨g+1,0,none⟩ _).setCell ⟨g+1,1,none⟩ _).setCell ⟨g+1,2,none⟩ _).setCell ⟨g+1,3,none⟩ _=w9 at *;exact⟨k+1,v5,v7,aR,aM gB.o,GL.o,pD.o,r9.o,nC.o,jR.o,by rw[tL.o];exact H5.o,by rw[N9.o];exact H7.o,HD.o⟩
   case measure=>exact e_.o
  ·have pP:k=n3:=by omega
   subst pP;have iM:¬(k:Int)<(k:Int):=by omega
   have hTK:(ss.map fB).take k=ss.map fB:=oP (by rw[HL.o];exact lR);rw[hTK] at mM yQ;have HZ2:Hid (bM (cO ((ss.map fB).map lB))<=600000):=lH (by
    have:=kL _ ((ss.map fB).map lB) rfl 2000 (fun q h=>by
     obtain⟨y,hy,rfl⟩:=List.mem_map.1 h;rw[qI];exact HQ.o y hy)
    rw[kJ] at this;have h2:(ss.map fB).length<=256:=by have:=HL.o;omega
    have:=Nat.mul_le_mul_right 2001 h2;omega)
   clear hTK;(go_upto_region 7 with fail);obtain⟨p0,p1,p2,p3,pl⟩:=nC.o.b4;obtain⟨d0,d1,d2,d3,dl⟩:=jR.o.b4;have bH:=lH (aH (Below.refl wr.heap.size wr));refine fX (S:=fun w'=>Below wr.heap.size wr w') 4 _ _ (by kernel_rfl) (by kernel_rfl) (by kernel_rfl) rfl rfl (aH bR) (fun hHeld=>?_);simp only[oO,List.take_zero];refine d7 [0,1] ?_;refine bI 2 (fun K hK=>?_);go_simp;refine(oQ 2 wr.drew (by decide) (by decide)).mono ?_;rintro e w5 ⟨eS,v5,rfl,h5⟩;have dK:=bX bH eS;have H5:=lH h5;clear eS h5;go_simp;refine iJ hK dK.o (fun hHeld=>?_);clear hK K;refine bI 3 (fun K hK=>?_);go_simp;refine(aIS (yQ.o.up dK.o) H5.o (by decide) (by have:=HZ2.o;have:=lM 2 (by decide) (by decide);omega)).mono ?_;rintro e w6 ⟨eE,v6,rfl,h6⟩;have d6:=bX dK eE;have H6:=lH h6;clear eE h6;go_simp;refine iJ hK d6.o (fun hHeld=>?_);clear hK K;refine fZ ?_;have GL:=lH (HK.o.tm d6.o);replace mM:=lH (mM.o.up d6.o);replace pD:=lH (pD.o.bl d6.o);replace r9:=lH (r9.o.bl d6.o);clear p0 p1 p2 p3 pl d0 d1 d2 d3 dl hHeld;obtain⟨p0,p1,p2,p3,pf,pl⟩:=pD.o.e4;go_simp;clear p0 p1 p2 p3 pf pl;have X2:=eL (g:=w.heap.size) (v:=v) GL.o (by omega);replace r9:=lH (CU (g:=w.heap.size) (v:=v) r9.o (by omega));replace mM:=lH (mM.o.keepq (v:=v) (x:=sD) pD.o);replace H6:=lH (H6.o.keepq (v:=v) (x:=sD) pD.o);replace pD:=lH (FJ (v:=v) (x:=sD) pD.o);replace GL:=lH X2;clear X2;unfold oU at GL;generalize (((w6.setCell ⟨w.heap.size,0,none⟩ _).setCell ⟨w.heap.size,1,none⟩ _).setCell ⟨w.heap.size,2,none⟩ _).setCell ⟨w.heap.size,3,none⟩ _=w7 at *;obtain⟨p0,p1,p2,p3,pf,pl⟩:=r9.o.e4;refine cJ (by rfl) ?_;(go_wp2_with fail);clear p0 p1 p2 p3 pf pl;have X2:=eL (g:=w.heap.size+1) (v:=v6) GL.o (by omega);replace pD:=lH (CU (g:=w.heap.size+1) (v:=v6) pD.o (by omega));replace mM:=lH (mM.o.keepq (v:=v6) (x:=sD) r9.o);replace H6:=lH (H6.o.keepq (v:=v6) (x:=sD) r9.o);replace r9:=lH (FJ (v:=v6) (x:=sD) r9.o);replace GL:=lH X2;clear X2;unfold oU at GL;generalize (((w7.setCell ⟨w.heap.size+1,0,none⟩ _).setCell ⟨w.heap.size+1,1,none⟩ _).setCell ⟨w.heap.size+1,2,none⟩ _).setCell ⟨w.heap.size+1,3,none⟩ _=w8 at *;obtain⟨p0,p1,p2,p3⟩:=pD.o.a4;obtain⟨q0,q1,q2,q3⟩:=r9.o.a4;exact bodyPost_ret (v:=.tuple #[.agg #[.bool v.b1,.slice v.A v.n v.c,.bool v.b2,.slice v.A2 v.m v.d],.agg #[.bool v6.b1,.slice v6.A v6.n v6.c,.bool v6.b2,.slice v6.A2 v6.m v6.d]]) (by simp[results,Tryz.results80,go_sem,p0,p1,p2,p3,q0,q1,q2,q3]) rfl ⟨GL.o,v,v6,rfl,mM.o,H6.o⟩
def bsS(ss:List ByteArray):ByteArray:=if fT 256 ss=0/\bJ (cO (ss.map fB))/\bJ (iA (ss.map fB)) then eH (cO (ss.map fB)) else⟨#[]⟩
def bsR(ss:List ByteArray):ByteArray:=if fT 256 ss=0/\bJ (cO (ss.map fB))/\bJ (iA (ss.map fB)) then eH (iA (ss.map fB)) else⟨#[]⟩
def GX(ss:List ByteArray):Int:=if fT 256 ss=0 then(if bJ (cO (ss.map fB))/\bJ (iA (ss.map fB)) then 0 else 2) else fT 256 ss
theorem aDz(h1:fT 256 ss=0)(h2:bJ (cO (ss.map fB)))(h3:bJ (iA (ss.map fB))):bsS ss=eH (cO (ss.map fB))/\bsR ss=eH (iA (ss.map fB))/\GX ss=0:=by
 unfold bsS bsR GX;rw[if_pos ⟨h1,h2,h3⟩,if_pos ⟨h1,h2,h3⟩,if_pos h1,if_pos ⟨h2,h3⟩];exact⟨rfl,rfl,rfl⟩
theorem ZH(h1:fT 256 ss=0)(h2:¬(bJ (cO (ss.map fB))/\bJ (iA (ss.map fB)))):bsS ss=⟨#[]⟩/\bsR ss=⟨#[]⟩/\GX ss=2:=by
 unfold bsS bsR GX;rw[if_neg (fun h=>h2 h.2),if_neg (fun h=>h2 h.2),if_pos h1,if_neg h2];exact⟨rfl,rfl,rfl⟩
theorem aE6(h1:fT 256 ss≠0):bsS ss=⟨#[]⟩/\bsR ss=⟨#[]⟩/\GX ss=fT 256 ss:=by
 unfold bsS bsR GX;rw[if_neg (fun h=>h1 h.1),if_neg (fun h=>h1 h.1),if_neg h1];exact⟨rfl,rfl,rfl⟩
theorem ZI(h:GX ss=0):fT 256 ss=0/\bJ (cO (ss.map fB))/\bJ (iA (ss.map fB)):=by
 unfold GX at h;by_cases h1:fT 256 ss=0
 ·rw[if_pos h1] at h
  by_cases h2:bJ (cO (ss.map fB))/\bJ (iA (ss.map fB))
  ·exact⟨h1,h2⟩
  ·rw[if_neg h2] at h;cases h
 ·rw[if_neg h1] at h;exact absurd h h1
theorem KH(A:OA)(n c:Nat)(ss:List ByteArray)(w:Wo)(hR:aW w w.heap.size A n ss)(hs:∀s∈ss,s.size<=maxLen)(hn:n<=9223372036854775807)(ht:eY w):Calls Tryz.prog 38 #[.slice A n c] w fun e w'=>e=.returned (.tuple #[.string (bsS ss),.string (bsR ss),.int .i64 (GX ss)])/\Below w.heap.size w w':=by
 obtain⟨HC,HR,HT⟩:=eR (BX A n c ss w hR hs hn ht) hR ht;clear hR hs ht;go_enter Tryz.func38,Tryz.ntmps38
 go_wp2_with fail
 refine HC.o.mono ?_;rintro e w1 ⟨he,bG⟩;have cR:=lH bG;clear bG HC;by_cases h0:fT 256 ss=0
 ·have H0:=lH h0
  rw[h0] at he;subst he;clear h0;(go_wp2_with fail);refine(HJ A n c ss w1 (HR.o.bm cR.o) H0.o).mono ?_;rintro e w2 ⟨bV,v,u,rfl,h1,h2⟩;have dB:=bX cR bV;have H1:=lH h1;have H2:=lH h2;clear bV h1 h2 cR;(go_wp2_with fail);generalize lQ:(w2.alloc (.cells #[.bool v.b1,.slice v.A v.n v.c,.bool v.b2,.slice v.A2 v.m v.d] 87)).alloc (.cells #[.bool u.b1,.slice u.A u.n u.c,.bool u.b2,.slice u.A2 u.m u.d] 87)=wa;have fP:Below w2.heap.size w2 wa:=by rw[<-lQ];exact(bA).alloc (by simp) _
  have jR:Hid (aD wa (w2.heap.size+1) 87 #[.bool u.b1,.slice u.A u.n u.c,.bool u.b2,.slice u.A2 u.m u.d]):=lH (by rw[<-lQ];exact aD.new_ (by simp));replace dB:=lH (dB.o.tm fP);replace H1:=lH (H1.o.up fP);replace H2:=lH (H2.o.up fP);clear lQ fP;generalize w2.heap.size=g at *;refine(UO H1.o (HT.o.up dB.o)).mono ?_;rintro e w3 ⟨eF,s,rfl,hs⟩;have gY:=bX dB eF;replace jR:=lH (jR.o.bl eF);replace H2:=lH (H2.o.up eF);have HS:=lH hs;clear eF hs dB H1;generalize NA:decide (bJ (cO (ss.map fB)))=b1;have HBO:=lH NA;clear NA;obtain⟨p0,p1,p2,p3⟩:=jR.o.a4;(go_wp2_with fail);refine(UO H2.o (HT.o.up gY.o)).mono ?_;clear p0 p1 p2 p3;rintro e w4 ⟨h_,t,rfl,ht⟩;have bH:=bX gY h_;have HTT:=lH ht;clear h_ ht gY H2 jR;generalize NA:decide (bJ (iA (ss.map fB)))=b2;have aAj:=lH NA;clear NA;cases b1 with
  | true=>
   have LD:bJ (cO (ss.map fB)):=of_decide_eq_true HBO.o;cases b2 with
   | true=>
    have LC:bJ (iA (ss.map fB)):=of_decide_eq_true aAj.o;obtain⟨HE,nC,Z6⟩:=eR (aDz H0.o LD LC) (HS.o LD) (HTT.o LC);clear LD LC HBO aAj HS HTT;(go_wp2_with fail);exact bodyPost_ret (v:=.tuple #[.string s,.string t,.int .i64 0]) (by simp[results,Tryz.results38,go_sem]) rfl ⟨by rw[HE.o.1,HE.o.2.1,HE.o.2.2,nC.o,Z6.o];rfl,bH.o⟩
   | false=>
    have LC:¬bJ (iA (ss.map fB)):=of_decide_eq_false aAj.o;have HE:=lH (ZH H0.o (fun h=>LC h.2));clear LD LC HBO aAj HS HTT;(go_wp2_with fail);exact bodyPost_ret (v:=.tuple #[.string ⟨#[]⟩,.string ⟨#[]⟩,.int .i64 2]) (by simp[results,Tryz.results38,go_sem]) rfl ⟨by rw[HE.o.1,HE.o.2.1,HE.o.2.2],bH.o⟩
  | false=>
   have LD:¬bJ (cO (ss.map fB)):=of_decide_eq_false HBO.o;have HE:=lH (ZH H0.o (fun h=>LD h.1));clear LD HBO aAj HS HTT;(go_wp2_with fail);exact bodyPost_ret (v:=.tuple #[.string ⟨#[]⟩,.string ⟨#[]⟩,.int .i64 2]) (by simp[results,Tryz.results38,go_sem]) rfl ⟨by rw[HE.o.1,HE.o.2.1,HE.o.2.2],bH.o⟩
 ·have HE:=lH (aE6 h0)
  generalize fT 256 ss=z at *;subst he;have h0b:(z != 0)=true:=by simp[h0]
  clear h0;(go_wp2_with fail);exact bodyPost_ret (v:=.tuple #[.string ⟨#[]⟩,.string ⟨#[]⟩,.int .i64 z]) (by simp[results,Tryz.results38,go_sem]) rfl ⟨by rw[HE.o.1,HE.o.2.1,HE.o.2.2],cR.o⟩
def TK(ss:List ByteArray)(x y:Int):Bool:=if GX ss=0/\0<=x/\x<=1000000/\0<=y/\y<=2000 then decide (0<aCe (lB (cO (ss.map fB))) ((x:Rat)+Rat.divInt y 1000*iA (ss.map fB))) else false
def RA(ss:List ByteArray)(x y:Int):Int:=if fT 256 ss=0 then(if 0<=x/\x<=1000000/\0<=y/\y<=2000 then GX ss else 4) else fT 256 ss
theorem R9{qs:List Rat}(hl:qs.length<=256)(h:∀q∈qs,bM q<=2000):bM (iA qs)<=600010:=by
 have h1:=kL _ (qs.map lB) rfl 2000 (fun q h'=>by
  obtain⟨y,hy,rfl⟩:=List.mem_map.1 h';rw[qI];exact h y hy)
 rw[kJ] at h1;have:=Nat.mul_le_mul_right 2001 hl;have h2:=PC (cO (qs.map lB)) 2;have h3:bM 2<=2:=lM 2 (by decide) (by decide);unfold iA;omega
theorem IA{qs:List Rat}(hl:qs.length<=256)(h:∀q∈qs,bM q<=2000):bM (cO qs)<=600000:=by
 have h1:=kL _ qs rfl 2000 h;have:=Nat.mul_le_mul_right 2001 hl;omega
theorem uF(A:OA)(n c:Nat)(x y:Int)(ss:List ByteArray)(w:Wo)(hR:aW w w.heap.size A n ss)(hs:∀s∈ss,s.size<=maxLen)(hn:n<=9223372036854775807)(ht:eY w):Calls Tryz.prog 39 #[.slice A n c,.int .i64 x,.int .i64 y] w fun e w'=>e=.returned (.tuple #[.bool (TK ss x y),.int .i64 (RA ss x y)])/\Below w.heap.size w w':=by
 obtain⟨HC,HR,B9,HT⟩:=gO (BX A n c ss w hR hs hn ht) hR hs ht;clear hR hs ht;go_enter Tryz.func39,Tryz.ntmps39
 go_wp2_with fail
 refine HC.o.mono ?_;rintro e w1 ⟨he,bG⟩;have cR:=lH bG;clear bG HC;have BAD:GX ss≠0->TK ss x y=false:=fun h=>by unfold TK;rw[if_neg (fun k=>h k.1)]
 replace BAD:=lH BAD;by_cases h0:fT 256 ss=0
 ·have H0:=lH h0
  rw[h0] at he;subst he;clear h0;by_cases hr:0<=x/\x<=1000000/\0<=y/\y<=2000
  ·have nI:=lH hr
   obtain⟨OU,CK,uP,hy1⟩:=hr;have g1:¬x<0:=by omega
   have g2:¬1000000<x:=by omega
   have g3:¬y<0:=by omega
   have g4:¬2000<y:=by omega
   (go_wp2_with fail);refine(KH A n c ss w1 (HR.o.bm cR.o) B9.o hn (HT.o.up cR.o)).mono ?_;rintro e w2 ⟨rfl,bV⟩;have dB:=bX cR bV;clear bV cR g1 g2 g3 g4;generalize bsS ss=zs;generalize bsR ss=zr;by_cases hE:GX ss=0
   ·have HE:=lH hE
    rw[hE];clear hE;(go_wp2_with fail);refine(HJ A n c ss w2 (HR.o.bm dB.o) H0.o).mono ?_;rintro e w3 ⟨eF,v,u,rfl,h1,h2⟩;have gY:=bX dB eF;have H1:=lH h1;have H2:=lH h2;clear eF h1 h2 dB;(go_upto_region 10 with fail);generalize lQ:(w3.alloc (.cells #[.bool v.b1,.slice v.A v.n v.c,.bool v.b2,.slice v.A2 v.m v.d] 87)).alloc (.cells #[.bool u.b1,.slice u.A u.n u.c,.bool u.b2,.slice u.A2 u.m u.d] 87)=wa;have fP:Below w3.heap.size w3 wa:=by rw[<-lQ];exact(bA).alloc (by simp) _
    have nC:Hid (aD wa w3.heap.size 87 #[.bool v.b1,.slice v.A v.n v.c,.bool v.b2,.slice v.A2 v.m v.d]):=lH (by rw[<-lQ];exact(aD.new w3 _ _).alloc _);have jR:Hid (aD wa (w3.heap.size+1) 87 #[.bool u.b1,.slice u.A u.n u.c,.bool u.b2,.slice u.A2 u.m u.d]):=lH (by rw[<-lQ];exact aD.new_ (by simp));replace gY:=lH (gY.o.tm fP);replace H1:=lH (H1.o.up fP);replace H2:=lH (H2.o.up fP);clear lQ fP;generalize w3.heap.size=g at *;have HL:Hid ((ss.map fB).length<=256):=lH (by rw[kJ];exact(vA.1 H0.o).1);have HZ1:=lH (IA HL.o (AI (vA.1 H0.o).2));have HZ2:=lH (R9 HL.o (AI (vA.1 H0.o).2));have HZX:Hid (bM (x:Rat)<=2):=lH (lM x (by omega) (by omega));have HZY:Hid (bM (Rat.divInt y 1000)<=2):=lH (by
     refine eN (q7 y (d:=1000) (by decide)) (Nat.max_le.2 ⟨?_,by decide+kernel⟩);exact gI (by show _<4294967296^2;omega))
    obtain⟨p0,p1,p2,p3,pl⟩:=nC.o.b4;obtain⟨d0,d1,d2,d3,dl⟩:=jR.o.b4;have bH:=lH (aH (Below.refl wa.heap.size wa));refine bC (S:=fun w'=>Below wa.heap.size wa w') 12 _ (by kernel_rfl) (by kernel_rfl) rfl bH.o (fun hHeld=>?_);simp only[oO,List.take_zero];refine d7 [0,2,4,6] ?_;refine bI 1 (fun K hK=>?_);go_simp;refine(aIX (H1.o.up bH.o)).mono ?_;rintro e w5 ⟨eS,v5,rfl,h5⟩;have dK:=bX bH eS;have H5:=lH h5;clear eS h5;go_simp;refine iJ hK dK.o (fun hHeld=>?_);clear hK K;refine bI 3 (fun K hK=>?_);go_simp;refine(oQ x _ (by omega) (by omega)).mono ?_;rintro e w6 ⟨eE,v6,rfl,h6⟩;have d6:=bX dK eE;have H6:=lH h6;replace H5:=lH (H5.o.up eE);clear eE h6;go_simp;refine iJ hK d6.o (fun hHeld=>?_);clear hK K;refine bI 5 (fun K hK=>?_);go_simp;refine(O6 y 1000 _ (by omega) (by omega) (by decide) (by decide) (by decide)).mono ?_;rintro e w7 ⟨fR,v7,rfl,h7⟩;have gN:=bX d6 fR;have H7:=lH h7;replace H5:=lH (H5.o.up fR);replace H6:=lH (H6.o.up fR);clear fR h7;go_simp;refine iJ hK gN.o (fun hHeld=>?_);clear hK K;refine bI 7 (fun K hK=>?_);go_simp;refine(WG H7.o (H2.o.up gN.o) (by have:=HZ2.o;have:=HZY.o;omega)).mono ?_;rintro e w8 ⟨mL,v8,rfl,h8⟩;have hX:=bX gN mL;have H8:=lH h8;replace H5:=lH (H5.o.up mL);replace H6:=lH (H6.o.up mL);clear mL h8;go_simp;refine iJ hK hX.o (fun hHeld=>?_);clear hK K;refine bI 8 (fun K hK=>?_);go_simp;refine(B5 H6.o H8.o (by have:=mV (Rat.divInt y 1000) (iA (ss.map fB));have:=HZ2.o;have:=HZX.o;have:=HZY.o;omega)).mono ?_;rintro e w9 ⟨jQ,v9,rfl,h9⟩;have eU:=bX hX jQ;have H9:=lH h9;replace H5:=lH (H5.o.up jQ);clear jQ h9;go_simp;refine iJ hK eU.o (fun hHeld=>?_);clear hK K;refine bI 9 (fun K hK=>?_);go_simp;refine(aNy H5.o H9.o (by rw[qI];have:=HZ1.o;have:=lI (x:Rat) (Rat.divInt y 1000*iA (ss.map fB));have:=mV (Rat.divInt y 1000) (iA (ss.map fB));have:=HZ2.o;have:=HZX.o;have:=HZY.o;omega)).mono ?_;rintro e w10 ⟨rfl,F0⟩;have TG:=bX eU F0;clear F0;generalize hz:aCe (lB (cO (ss.map fB))) ((x:Rat)+Rat.divInt y 1000*iA (ss.map fB))=z;have HZ:=lH hz;clear hz;go_simp;refine iJ hK TG.o (fun hHeld=>?_);clear hK K;refine d7 [10,11] ?_;refine fZ ?_;clear p0 p1 p2 p3 pl d0 d1 d2 d3 dl;have DI:=lH (gY.o.tm TG.o);have HOB:Hid (TK ss x y=decide (0<z)):=lH (by unfold TK;rw[if_pos ⟨HE.o,nI.o⟩,HZ.o]);have HOF:Hid (RA ss x y=0):=lH (by unfold RA;rw[if_pos H0.o,if_pos nI.o,HE.o]);(go_wp2_with fail);go_ret2;exact⟨by rw[HOB.o,HOF.o];rfl,DI.o⟩
   ·have HOB:=lH (BAD.out hE)
    have HOF:Hid (RA ss x y=GX ss):=lH (by unfold RA;rw[if_pos H0.o,if_pos nI.o]);generalize GX ss=z at *;have h0b:(z != 0)=true:=by simp[hE]
    clear hE;(go_wp2_with fail);go_ret2;exact⟨by rw[HOB.o,HOF.o];rfl,dB.o⟩
  ·have HOB:Hid (TK ss x y=false):=lH (by unfold TK;rw[if_neg (fun h=>hr h.2)])
   have HOF:Hid (RA ss x y=4):=lH (by unfold RA;rw[if_pos H0.o,if_neg hr]);by_cases g1:x<0
   ·go_wp2_with fail
    go_ret2;exact⟨by rw[HOB.o,HOF.o];rfl,cR.o⟩
   ·by_cases g2:1000000<x
    ·go_wp2_with fail
     go_ret2;exact⟨by rw[HOB.o,HOF.o];rfl,cR.o⟩
    ·by_cases g3:y<0
     ·go_wp2_with fail
      go_ret2;exact⟨by rw[HOB.o,HOF.o];rfl,cR.o⟩
     ·have g4:2000<y:=by omega
      (go_wp2_with fail);go_ret2;exact⟨by rw[HOB.o,HOF.o];rfl,cR.o⟩
 ·have HOB:Hid (TK ss x y=false):=lH (BAD.out (fun h=>h0 (ZI h).1))
  have HOF:Hid (RA ss x y=fT 256 ss):=lH (by unfold RA;rw[if_neg h0]);generalize fT 256 ss=z at *;subst he;have h0b:(z != 0)=true:=by simp[h0]
  clear h0;(go_wp2_with fail);go_ret2;exact⟨by rw[HOB.o,HOF.o];rfl,cR.o⟩
structure Mi where
 kind:Int
 name:ByteArray
 txt:ByteArray
 wt:Int
def Mi.cells(x:Mi):List Value:=[.int .i64 x.kind,.string x.name,.string x.txt,.int .i64 x.wt]
def Mi.val(x:Mi):Value:=.agg #[.int .i64 x.kind,.string x.name,.string x.txt,.int .i64 x.wt]
theorem Mi.len(x:Mi):x.cells.length=4:=rfl
def lJ(w:Wo)(B:Nat)(A:OA)(n:Nat)(xs:List Mi):Prop:=xs.length=n/\Rd w B 4 A n (xs.flatMap Mi.cells)
theorem lJ.below{xs:List Mi}(h:lJ w B A n xs)(hb:Below B' w w')(hB:B<=B'):lJ w' B A n xs:=⟨h.1,h.2.below hb hB⟩
theorem lJ.more{xs:List Mi}(h:lJ w B A n xs)(hB:B<=B'):lJ w B' A n xs:=⟨h.1,h.2.more hB⟩
theorem lJ.at_{b off:Nat}{xs:List Mi}(h:lJ w B (some ⟨b,off,none⟩) n xs){i:Nat}{x:Mi}(hx:xs[i]?=some x):w.cell? ⟨b,off+i*4,none⟩=some (.int .i64 x.kind)/\w.cell? ⟨b,off+i*4+1,none⟩=some (.string x.name)/\w.cell? ⟨b,off+i*4+2,none⟩=some (.string x.txt)/\w.cell? ⟨b,off+i*4+3,none⟩=some (.int .i64 x.wt):=by
 have hl:i<xs.length:=(c_.1 hx).1;have h1:=h.1;obtain⟨b',off',e,_,hc⟩:=h.2.2 (by omega);injection e with e;injection e with e1 e2;subst e1;subst e2;have key:∀k,k<4->∀u,x.cells[k]?=some u->w.cell? ⟨b,off+i*4+k,none⟩=some u:=fun k hk u hu=>by
  have:=hc (i*4+k) u (by rw[iN Mi.len xs i x hx k hk];exact hu);rwa[<-Nat.add_assoc] at this
 exact⟨key 0 (by omega) _ rfl,key 1 (by omega) _ rfl,key 2 (by omega) _ rfl,key 3 (by omega) _ rfl⟩
theorem lJ.form{xs:List Mi}(h:lJ w B A n xs)(h0:0<n):∃b off,A=some ⟨b,off,none⟩/\b<B:=by
 obtain⟨b,off,e,aR,_⟩:=h.2.2 h0;exact⟨b,off,e,aR⟩
theorem Mi.box{p:Nat}{t:TypeId}{x:Mi}(h:aD w p t #[.int .i64 x.kind,.string x.name,.string x.txt,.int .i64 x.wt]):w.cell? ⟨p,0,none⟩=some (.int .i64 x.kind)/\w.cell? ⟨p,1,none⟩=some (.string x.name)/\w.cell? ⟨p,2,none⟩=some (.string x.txt)/\w.cell? ⟨p,3,none⟩=some (.int .i64 x.wt)/\(∀i,w.frozen? ⟨p,i,none⟩=false)/\p<w.heap.size:=
 ⟨h.cell 0,h.cell 1,h.cell 2,h.cell 3,h.frozen,h.lt⟩
structure Vc where
 A:OA
 n:Nat
 c:Nat
 ss:List ByteArray
def Vc.cells(v:Vc):List Value:=[.slice v.A v.n v.c]
theorem Vc.len(v:Vc):v.cells.length=1:=rfl
def tD(w:Wo)(B:Nat)(A:OA)(n:Nat)(vs:List Vc):Prop:=vs.length=n/\Rd w B 1 A n (vs.flatMap Vc.cells)/\∀v∈vs,aW w B v.A v.n v.ss/\v.n<=9223372036854775807
theorem tD.below{xs:List Vc}(h:tD w B A n xs)(hb:Below B' w w')(hB:B<=B'):tD w' B A n xs:=⟨h.1,h.2.1.below hb hB,fun v hv=>⟨(h.2.2 v hv).1.below hb hB,(h.2.2 v hv).2⟩⟩
theorem tD.more{xs:List Vc}(h:tD w B A n xs)(hB:B<=B'):tD w B' A n xs:=⟨h.1,h.2.1.more hB,fun v hv=>⟨(h.2.2 v hv).1.more hB,(h.2.2 v hv).2⟩⟩
theorem tD.form{xs:List Vc}(h:tD w B A n xs)(h0:0<n):∃b off,A=some ⟨b,off,none⟩/\b<B:=by
 obtain⟨b,off,e,aR,_⟩:=h.2.1.2 h0;exact⟨b,off,e,aR⟩
theorem tD.at_{b off:Nat}{xs:List Vc}(h:tD w B (some ⟨b,off,none⟩) n xs){i:Nat}{x:Vc}(hx:xs[i]?=some x):w.cell? ⟨b,off+i,none⟩=some (.slice x.A x.n x.c):=by
 have hl:i<xs.length:=(c_.1 hx).1;have h1:=h.1;obtain⟨b',off',e,_,hc⟩:=h.2.1.2 (by omega);injection e with e;injection e with e1 e2;subst e1;subst e2;have:=iN Vc.len xs i x hx 0 (by decide);rw[Nat.mul_one,Nat.add_zero] at this;exact hc i _ this
theorem IM(A:OA)(n c:Nat)(a:List ByteArray)(B:OA)(m d:Nat)(b:List ByteArray)(w:Wo)(ha:aW w w.heap.size A n a)(hb:aW w w.heap.size B m b)(hn:n<=9223372036854775807)(hm:m<=9223372036854775807):Calls Tryz.prog 28 #[.slice A n c,.slice B m d] w fun e w'=>e=.returned (.bool (decide (a=b)))/\Below w.heap.size w w':=by
 obtain⟨hla,hlb,HA,HB⟩:=gO ha.1 hb.1 ha hb;clear ha hb;go_enter Tryz.func28,Tryz.ntmps28
 by_cases GT:n=m
 ·subst GT
  go_wp2_with fail
  go_loopw [5,13] (fun _ i wr=>∃k:Nat,k<=n/\i=.int .i64 k/\a.take k=b.take k/\Below w.heap.size w wr) (fun _ i _=>n-(intOf i).toNat)
  case atStart=>exact⟨0,by omega,rfl,by simp,bR⟩
  case round=>
   obtain⟨k,hk,rfl,iI,hbw⟩:=hrel;have HAB:=lH iI;have HW:=lH hbw;clear iI hbw;by_cases aR:k<n
   ·obtain⟨x,hx⟩:∃x,a[k]?=some x:=eG (by have:=hla.out;omega)
    obtain⟨y,hy⟩:∃y,b[k]?=some y:=eG (by have:=hlb.out;omega);obtain⟨ba,oa,rfl,X9⟩:=HA.o.form (by omega);obtain⟨bb,ob,rfl,X5⟩:=HB.o.form (by omega);have CO:=(HA.o.below HW.o lR).at_ hx;have zK:=(HB.o.below HW.o lR).at_ hy;have hl1:ba<wr.heap.size:=jJ X9 HW.o.size;have hl2:bb<wr.heap.size:=jJ X5 HW.o.size;have aS_:(k:Int)<(n:Int):=by omega
    have iM:=lZ k;have gB:=lN k;have e_:Hid (n-(k+1)<n-k):=lH (by omega);by_cases hxy:x=y
    ·subst hxy
     have hp:k_ x x=true:=iY.2 rfl;have HT:Hid (a.take (k+1)=b.take (k+1)):=lH (by rw[fG hx,fG hy,HAB.o]);clear hx hy X9 X5;(go_wp2_with fail)
     go_quiet (fail)
     (go_wp2_with fail);go_roundw
     case rel=>exact⟨k+1,aR,aM gB.o,HT.o,aS HW.o _⟩
     case measure=>exact e_.o
    ·have hp:k_ x y=false:=wD.2 hxy
     have HT:Hid (decide (a=b)=false):=lH (by
      rw[decide_eq_false_iff_not];intro e;subst e;rw[hx] at hy;injection hy with hy;exact hxy hy)
     clear hx hy X9 X5 hxy;(go_wp2_with fail)
     go_quiet (fail)
     (go_wp2_with fail);go_ret;exact⟨by rw[HT.o];rfl,aS HW.o _⟩
   ·have iM:¬(k:Int)<(n:Int):=by omega
    have HT:Hid (decide (a=b)=true):=lH (by
     rw[decide_eq_true_iff];have h:=HAB.o;rwa[oP (by have:=hla.out;omega),oP (by have:=hlb.out;omega)] at h)
    (go_wp2_with fail);go_ret;exact⟨by rw[HT.o];rfl,HW.o⟩
 ·have hI:((n:Int) != (m:Int))=true:=by simp;omega
  have HT:Hid (decide (a=b)=false):=lH (by
   rw[decide_eq_false_iff_not];intro e;subst e;exact GT (hla.out.symm.trans hlb.out))
  (go_wp2_with fail);go_ret;exact⟨by rw[HT.o];rfl,bR⟩
theorem lJ.bm{l:List Mi}(h:lJ w w.heap.size A n l)(g:Below w.heap.size w w'):lJ w' w'.heap.size A n l:=(h.below g lR).more g.size
theorem tD.bm{l:List Vc}(h:tD w w.heap.size A n l)(g:Below w.heap.size w w'):tD w' w'.heap.size A n l:=(h.below g lR).more g.size
end
section
def Tn(k:Nat)(q:Rat):Prop:=q.num.natAbs<10^k/\q.den<10^k
theorem Tn.mono{m:Nat}(h:Tn k q)(hm:k<=m):Tn m q:=
 ⟨jJ h.1 (Nat.pow_le_pow_right (by decide) hm),jJ h.2 (Nat.pow_le_pow_right (by decide) hm)⟩
theorem Tn.fits(h:Tn k q)(hk:k<=2000):bJ q:=by
 have h2:=h.mono hk;exact⟨MH (by decide) h2.1,MH (by decide) h2.2⟩
theorem JR(h:bJ q):bJ (-q):=by
 unfold bJ;rw[Rat.neg_num,Rat.neg_den,Int.natAbs_neg];exact h
def Ot(D B:Nat)(q:Rat):Prop:=∃z:Int,q*((D:Int):Rat)=(z:Rat)/\z.natAbs<=B*D
theorem MD{C:Nat}{p:Rat}(hp:Ot D B p)(hq:Ot D C q):Ot D (B+C) (p+q):=by
 obtain⟨a,h1,h2⟩:=hp;obtain⟨b,h3,h4⟩:=hq;refine⟨a+b,by rw[Rat.add_mul,h1,h3,Rat.intCast_add],?_⟩;have:=Int.natAbs_add_le a b;rw[Nat.add_mul];omega
theorem VS(hq:Ot D B q):Ot D B (-q):=by
 obtain⟨a,h1,h2⟩:=hq;exact⟨-a,by rw[Rat.neg_mul,h1,Rat.intCast_neg],by rw[Int.natAbs_neg];exact h2⟩
theorem rD{C:Nat}(h:Ot D B q)(hb:B<=C):Ot D C q:=by
 obtain⟨a,h1,h2⟩:=h;exact⟨a,h1,eN h2 (Nat.mul_le_mul hb lR)⟩
end
section
open Go.ChangeShapes Go.WideShapes Go.ChangeAt Go.RowKit
attribute [local go_sem ↓] aE
attribute [local go_sem] aJ aI aL aX cQ.cells
def ct(l:List ByteArray)(s:ByteArray):Bool:=l.any fun x=>k_ s x
theorem mI{l:List ByteArray}{s:ByteArray}:ct l s=true<->s∈l:=by
 unfold ct;rw[List.any_eq_true];exact⟨fun⟨x,hx,he⟩=>by rw[iY.1 he];exact hx,fun h=>⟨s,h,iY.2 rfl⟩⟩
def GR(nodes part:List ByteArray):List ByteArray->Nat->Int
 | [],_=>0
 | s::r,k=>if ct nodes s then(if ct (part.take k) s then 7 else GR nodes part r (k+1)) else 6
def CJ(part:List ByteArray)(s:Sw):Bool:=!s.opn && (ct part s.a != ct part s.b)
def brX(part:List ByteArray)(b:Br):Bool:=ct part b.fr != ct part b.to
def iC(part:List ByteArray):List Br->Nat->List Int
 | [],_=>[]
 | b::r,k=>if brX part b then(k:Int)::iC part r (k+1) else iC part r (k+1)
def n_(x:bP)(part:List ByteArray):Int:=if d8 x=0 then(if GR x.nodes part part 0=0 then(if x.sws.any (CJ part) then 3 else 0) else GR x.nodes part part 0) else d8 x
def qQ(x:bP)(part:List ByteArray):List Int:=if n_ x part=0 then iC part x.brs 0 else[]
theorem u9(part:List ByteArray):∀(l:List Br)(k:Nat),(iC part l k).length<=l.length
 | [],_=>by simp[iC]
 | b::r,k=>by
  have:=u9 part r (k+1);unfold iC;split<;>simp<;>omega
def BdP(ls:List Int)(z:Int)(w:Wo)(e:Ending)(w':Wo):Prop:=Below w.heap.size w w'/\∃A n c,e=.returned (.tuple #[.slice A n c,.int .i64 z])/\oA w' w'.heap.size A n ls/\n<=c/\c<=maxLen
theorem qR{z:Int}{e:Ending}(hb:Below w.heap.size w w')(he:e=.returned (.tuple #[.slice none 0 0,.int .i64 z])):BdP [] z w e w':=⟨hb,none,0,0,he,aBh _ _ _,lR,by simp[maxLen]⟩
theorem RO:(Tryz.prog.info? 3).map (fun i=>(i.zero,i.size,i.bytes))=some (some (.int .i64 0),1,8):=by kernel_rfl
theorem pB(h:cQ)(x:bP)(A:OA)(n c:Nat)(part:List ByteArray)(w:Wo)(r:cX w w.heap.size h x)(hp:aW w w.heap.size A n part)(hn:n<=9223372036854775807)(GU:n<=c)(hc:c<=9223372036854775807):Calls Tryz.prog 19 #[.agg h.cells,.slice A n c] w (BdP (qQ x part) (n_ x part) w):=by
 have K0:=vM w (.cells h.cells 29);obtain⟨HK,HR,aJE,HP,zQ⟩:=mP K0 (r.up K0) r hp hp.1;have HX:=lH (aD.new w 29 h.cells);obtain⟨i0,jL,pF,kT,kS⟩:=info_parts RO;obtain⟨yT,xK,CE,CD⟩:=gO jL pF kT kS;clear K0 r hp jL pF kT kS;obtain⟨A0,m0,c0,A1,m1,c1,A2,m2,c2,A3,m3,c3,A4,m4,c4,A5,m5,c5⟩:=h;simp only[cQ.cells] at HK HR aJE HX ⊢;go_enter Tryz.func19,Tryz.ntmps19
 go_upto_region 1 with fail
 generalize w.alloc (.cells #[.slice A0 m0 c0,.slice A1 m1 c1,.slice A2 m2 c2,.slice A3 m3 c3,.slice A4 m4 c4,.slice A5 m5 c5] 29)=W at *;have xY:=HX.o.lt;have HC:=lH (EW ⟨A0,m0,c0,A1,m1,c1,A2,m2,c2,A3,m3,c3,A4,m4,c4,A5,m5,c5⟩ x W HR.o);simp only[cQ.cells] at HC;obtain⟨y0,y1,y2,y3,y4,y5⟩:=HX.o.a6
 go_wp2_with fail
 refine HC.o.mono ?_;clear y0 y1 y2 y3 y4 y5 xY HC;rintro e w1 ⟨he,bG⟩;have cR:=bX HK bG;have nI:=lH (HR.o.up bG);have dE:=lH (HX.o.bl bG);clear bG HK HR HX;by_cases h0:d8 x=0
 ·have H0:=lH h0
  have kU:=fH h0;have aHJ:=kU.l1;have X6:=kU.l2;have lm1:Hid (x.sws.length=m1):=lH nI.o.r1.1;have lm2:Hid (x.brs.length=m2):=lH nI.o.r2.1;have bm0:m0<=9223372036854775807:=nI.o.m0;have bm1:m1<=32:=by rw[<-lm1.out];exact aHJ
  have bm2:m2<=24:=by rw[<-lm2.out];exact X6
  clear aHJ X6;rw[h0] at he;subst he;have P8:Hid (n_ x part=if GR x.nodes part part 0=0 then(if x.sws.any (CJ part) then 3 else 0) else GR x.nodes part part 0):=lH (by unfold n_;rw[if_pos H0.o]);clear h0 kU;(go_wp2_with fail)
  go_loopw [21] (fun v21 wr=>∃k:Nat,k<=n/\v21=.int .i64 k/\GR x.nodes part part 0=GR x.nodes part (part.drop k) k/\Below w.heap.size w wr/\aD wr w.heap.size 29 #[.slice A0 m0 c0,.slice A1 m1 c1,.slice A2 m2 c2,.slice A3 m3 c3,.slice A4 m4 c4,.slice A5 m5 c5]/\cX wr wr.heap.size ⟨A0,m0,c0,A1,m1,c1,A2,m2,c2,A3,m3,c3,A4,m4,c4,A5,m5,c5⟩ x) (fun v21 _=>n-(intOf v21).toNat)
  case atStart=>exact⟨0,by omega,rfl,rfl,cR.o,dE.o,nI.o⟩
  case round=>
   clear cR dE nI;obtain⟨k,hk,rfl,mG,hb,hx,hr⟩:=hrel;obtain⟨HG,HB,HX,HR⟩:=gO mG hb hx hr;clear mG hb hx hr;obtain⟨y0,y1,y2,yl⟩:=HX.o.b3;by_cases aR:k<n
   ·obtain⟨s,hs⟩:∃s,part[k]?=some s:=eG (by have:=zQ.o;omega)
    obtain⟨b,off,hA,hb⟩:=(HP.o.below HB.o lR).form (by omega);subst hA;have TT:=(HP.o.below HB.o lR).at_ hs;have nG:b<wr.heap.size:=jJ hb HB.o.size;have HD:Hid (GR x.nodes part (part.drop k) k=if ct x.nodes s then(if ct (part.take k) s then 7 else GR x.nodes part (part.drop (k+1)) (k+1)) else 6):=lH (by rw[bW hs];rfl);have iM:(k:Int)<(n:Int):=by omega
    have hkc:k<=c:=by omega
    have aTf:(k:Int)<=(c:Int):=by omega
    have gB:=lN k;have e_:Hid (n-(k+1)<n-k):=lH (by omega);have P_:=lH (eB A0 m0 c0 x.nodes s wr HR.o.r0 bm0);have KT:=lH ((HP.o.bm HB.o).take (m:=k) (by omega));have K2:=lH (eB _ k c (part.take k) s wr KT.o (by omega));clear hs hb;(go_wp2_with fail);refine P_.o.mono ?_;rintro e w2 ⟨rfl,rfl⟩;have hct:(x.nodes.any fun x=>k_ s x)=ct x.nodes s:=rfl;rw[hct];clear hct P_;cases h1:ct x.nodes s with
    | false=>
     have HE:Hid (n_ x part=6):=lH (by rw[P8.o,HG.o,HD.o,h1];rfl);have HL:Hid (qQ x part=[]):=lH (by unfold qQ;rw[HE.o];rfl);clear h1;(go_wp2_with fail);go_ret2;rw[HE.o,HL.o];exact qR HB.o rfl
    | true=>
     have H1:=lH h1;clear h1;(go_wp2_with fail);refine K2.o.mono ?_;rintro e w2 ⟨rfl,rfl⟩;have hct:((part.take k).any fun x=>k_ s x)=ct (part.take k) s:=rfl;rw[hct];clear hct K2;cases h2:ct (part.take k) s with
     | true=>
      have HE:Hid (n_ x part=7):=lH (by rw[P8.o,HG.o,HD.o,H1.o,h2];rfl);have HL:Hid (qQ x part=[]):=lH (by unfold qQ;rw[HE.o];rfl);clear h2;(go_wp2_with fail);go_ret2;rw[HE.o,HL.o];exact qR HB.o rfl
     | false=>
      have HE:Hid (GR x.nodes part part 0=GR x.nodes part (part.drop (k+1)) (k+1)):=lH (by rw[HG.o,HD.o,H1.o,h2];rfl);clear h2;(go_wp2_with fail);go_roundw
      case rel=>exact⟨k+1,aR,aM gB.o,HE.o,HB.o,HX.o,HR.o⟩
      case measure=>exact e_.o
   ·have iM:¬(k:Int)<(n:Int):=by omega
    have tL:Hid (n_ x part=if x.sws.any (CJ part) then 3 else 0):=lH (by rw[P8.o,HG.o,List.drop_eq_nil_of_le (by have:=zQ.o;omega)];rfl);clear HG P8;(go_wp2_with fail);clear iM hk aR y0 y1 y2 yl;generalize wr=wz at *
    go_loopw [42] (fun v42 wr=>∃k:Nat,k<=m1/\v42=.int .i64 k/\x.sws.any (CJ part)=(x.sws.drop k).any (CJ part)/\Below w.heap.size w wr/\aD wr w.heap.size 29 #[.slice A0 m0 c0,.slice A1 m1 c1,.slice A2 m2 c2,.slice A3 m3 c3,.slice A4 m4 c4,.slice A5 m5 c5]/\cX wr wr.heap.size ⟨A0,m0,c0,A1,m1,c1,A2,m2,c2,A3,m3,c3,A4,m4,c4,A5,m5,c5⟩ x) (fun v42 _=>m1-(intOf v42).toNat)
    case atStart=>exact⟨0,by omega,rfl,rfl,HB.o,HX.o,HR.o⟩
    case round=>
     clear HB HX HR;obtain⟨k,hk,rfl,mG,hb,hx,hr⟩:=hrel;obtain⟨HG,HB,HX,HR⟩:=gO mG hb hx hr;clear mG hb hx hr;by_cases aR:k<m1
     ·obtain⟨s,hs⟩:∃s,x.sws[k]?=some s:=eG (by have:=lm1.out;omega)
      obtain⟨b,off,hA,hb⟩:=HR.o.r1.form (show 0<m1 by omega);simp only at hA;subst hA;obtain⟨a0,a1,a2,a3,a4⟩:=HR.o.r1.at_ hs;have HD:Hid ((x.sws.drop k).any (CJ part)=(CJ part s || (x.sws.drop (k+1)).any (CJ part))):=lH (by rw[bW hs];rfl);obtain⟨nm,sa,sb,brk,opn⟩:=s;have iM:(k:Int)<(m1:Int):=by omega
      have gB:=lN k;have e_:Hid (m1-(k+1)<m1-k):=lH (by omega);clear hs;(go_upto_region 15 with fail);clear a0 a1 a2 a3 a4 hb;generalize lQ:wr.alloc (.cells #[.string nm,.string sa,.string sb,.bool brk,.bool opn] 116)=wa;have fP:Below wr.heap.size wr wa:=by rw[<-lQ];exact bA
      have HZ:Hid (aD wa wr.heap.size 116 #[.string nm,.string sa,.string sb,.bool brk,.bool opn]):=lH (by rw[<-lQ];exact aD.new wr _ _);replace HB:=lH (HB.o.tm fP);replace HX:=lH (HX.o.bl fP);replace HR:=lH (HR.o.up fP);clear lQ fP;generalize wr.heap.size=gs at *;have z0:=HZ.o.cell 0;have z1:=HZ.o.cell 1;have z2:=HZ.o.cell 2;have z4:=HZ.o.cell 4;have zf:=HZ.o.frozen;have zl:=HZ.o.lt;have HRP:=lH (HP.o.bm HB.o);cases opn with
      | true=>
       have HE:Hid (x.sws.any (CJ part)=(x.sws.drop (k+1)).any (CJ part)):=lH (by rw[HG.o,HD.o];rfl)
       go_quiet (fail)
       (go_wp2_with fail);go_roundw
       case rel=>exact⟨k+1,aR,aM gB.o,HE.o,aS HB.o _,HX.o.drewN _,HR.o.up (aS bR _)⟩
       case measure=>exact e_.o
      | false=>
       obtain⟨ca,CO⟩:∃ca,ct part sa=ca:=⟨_,rfl⟩;obtain⟨cb,zK⟩:∃cb,ct part sb=cb:=⟨_,rfl⟩;have HCA:Hid (∀N,Calls Tryz.prog 47 #[.slice A n c,.string sa] (wa.drewN N) fun e w'=>e=.returned (.bool ca)/\w'=wa.drewN N):=lH fun N=>(eB A n c part sa (wa.drewN N) HRP.o hn).mono fun e w' ⟨he,hw⟩=>⟨by rw[he,<-CO];rfl,hw.symm⟩;have TE:Hid (∀N,Calls Tryz.prog 47 #[.slice A n c,.string sb] (wa.drewN N) fun e w'=>e=.returned (.bool cb)/\w'=wa.drewN N):=lH fun N=>(eB A n c part sb (wa.drewN N) HRP.o hn).mono fun e w' ⟨he,hw⟩=>⟨by rw[he,<-zK];rfl,hw.symm⟩;have PV:Hid (CJ part ⟨nm,sa,sb,brk,false⟩=(ca != cb)):=lH (by unfold CJ;rw[CO,zK];rfl);clear CO zK
       go_quiet ((first | (go_at_call_of 47 (Value.string sa);exact(HCA.o _).mono (fun _ _ hh=>⟨hh.1,_,hh.2⟩)) | (go_at_call_of 47 (Value.string sb);exact(TE.o _).mono (fun _ _ hh=>⟨hh.1,_,hh.2⟩))))
       clear HCA TE;cases ca<;>cases cb
       ·have HE:Hid (x.sws.any (CJ part)=(x.sws.drop (k+1)).any (CJ part)):=lH (by rw[HG.o,HD.o,PV.o];rfl)
        (go_wp2_with fail);go_roundw
        case rel=>exact⟨k+1,aR,aM gB.o,HE.o,aS HB.o _,HX.o.drewN _,HR.o.up (aS bR _)⟩
        case measure=>exact e_.o
       ·have HE:Hid (n_ x part=3):=lH (by rw[tL.o,HG.o,HD.o,PV.o];rfl)
        have HL:Hid (qQ x part=[]):=lH (by unfold qQ;rw[HE.o];rfl);(go_wp2_with fail);go_ret2;rw[HE.o,HL.o];exact qR (aS HB.o _) rfl
       ·have HE:Hid (n_ x part=3):=lH (by rw[tL.o,HG.o,HD.o,PV.o];rfl)
        have HL:Hid (qQ x part=[]):=lH (by unfold qQ;rw[HE.o];rfl);(go_wp2_with fail);go_ret2;rw[HE.o,HL.o];exact qR (aS HB.o _) rfl
       ·have HE:Hid (x.sws.any (CJ part)=(x.sws.drop (k+1)).any (CJ part)):=lH (by rw[HG.o,HD.o,PV.o];rfl)
        (go_wp2_with fail);go_roundw
        case rel=>exact⟨k+1,aR,aM gB.o,HE.o,aS HB.o _,HX.o.drewN _,HR.o.up (aS bR _)⟩
        case measure=>exact e_.o
     ·have iM:¬(k:Int)<(m1:Int):=by omega
      have HE:Hid (n_ x part=0):=lH (by rw[tL.o,HG.o,List.drop_eq_nil_of_le (by have:=lm1.out;omega)];rfl);have HL:Hid (qQ x part=iC part x.brs 0):=lH (by unfold qQ;rw[if_pos HE.o]);have y2:=HX.o.cell 2;have yl:=HX.o.lt;clear HG tL;(go_wp2_with fail);clear iM hk aR y2 yl;generalize wr=wz at *
      go_loopw [11,64] (fun v11 v64 wr=>∃(k:Nat)(out:List Int),k<=m2/\v64=.int .i64 k/\out.length<=k/\iC part x.brs 0=out++iC part (x.brs.drop k) k/\wr.ownsRow (w.heap.size+1) 3 1 v11 out.length (bK out)/\Below w.heap.size w wr/\aD wr w.heap.size 29 #[.slice A0 m0 c0,.slice A1 m1 c1,.slice A2 m2 c2,.slice A3 m3 c3,.slice A4 m4 c4,.slice A5 m5 c5]) (fun _ v64 _=>m2-(intOf v64).toNat)
      case atStart=>exact⟨0,[],by omega,rfl,by simp,rfl,VR _ _ _ _,HB.o,HX.o⟩
      case round=>
       clear HB HX HR;obtain⟨k,out,hk,rfl,hol,mG,how,hb,hx⟩:=hrel;obtain⟨HG,HO,HB,HX⟩:=gO mG how hb hx;have HR:=lH (aJE.o.bm HB.o);clear mG how hb hx;by_cases aR:k<m2
       ·obtain⟨s,hs⟩:∃s,x.brs[k]?=some s:=eG (by have:=lm2.out;omega)
        obtain⟨b,off,hA,hb⟩:=HR.o.r2.form (show 0<m2 by omega);simp only at hA;subst hA;obtain⟨a0,a1,a2,a3,a4,a5,a6,a7,a8⟩:=HR.o.r2.at_ hs;have HD:Hid (iC part (x.brs.drop k) k=if brX part s then(k:Int)::iC part (x.brs.drop (k+1)) (k+1) else iC part (x.brs.drop (k+1)) (k+1)):=lH (by rw[bW hs];rfl);obtain⟨nm,fr,tn,b1,b2,b3,b4,b5,b6⟩:=s;have iM:(k:Int)<(m2:Int):=by omega
        have gB:=lN k;have e_:Hid (m2-(k+1)<m2-k):=lH (by omega);clear hs;(go_upto_region 22 with fail);clear a0 a1 a2 a3 a4 a5 a6 a7 a8 hb;generalize lQ:wr.alloc (.cells #[.string nm,.string fr,.string tn,.int .i64 b1,.int .i64 b2,.int .i64 b3,.int .i64 b4,.int .i64 b5,.int .i64 b6] 53)=wa;have fP:Below wr.heap.size wr wa:=by rw[<-lQ];exact bA
        have HZ:Hid (aD wa wr.heap.size 53 #[.string nm,.string fr,.string tn,.int .i64 b1,.int .i64 b2,.int .i64 b3,.int .i64 b4,.int .i64 b5,.int .i64 b6]):=lH (by rw[<-lQ];exact aD.new wr _ _);replace HO:=lH (AN HO.o fP);replace HB:=lH (HB.o.tm fP);replace HX:=lH (HX.o.bl fP);clear lQ fP;generalize wr.heap.size=gs at *;have z1:=HZ.o.cell 1;have z2:=HZ.o.cell 2;have zl:=HZ.o.lt;have HRP:=lH (HP.o.bm HB.o);obtain⟨ca,CO⟩:∃ca,ct part fr=ca:=⟨_,rfl⟩;obtain⟨cb,zK⟩:∃cb,ct part tn=cb:=⟨_,rfl⟩;have HCA:Hid (∀N,Calls Tryz.prog 47 #[.slice A n c,.string fr] (wa.drewN N) fun e w'=>e=.returned (.bool ca)/\w'=wa.drewN N):=lH fun N=>(eB A n c part fr (wa.drewN N) HRP.o hn).mono fun e w' ⟨he,hw⟩=>⟨by rw[he,<-CO];rfl,hw.symm⟩
        have TE:Hid (∀N,Calls Tryz.prog 47 #[.slice A n c,.string tn] (wa.drewN N) fun e w'=>e=.returned (.bool cb)/\w'=wa.drewN N):=lH fun N=>(eB A n c part tn (wa.drewN N) HRP.o hn).mono fun e w' ⟨he,hw⟩=>⟨by rw[he,<-zK];rfl,hw.symm⟩;have PV:Hid (brX part ⟨nm,fr,tn,b1,b2,b3,b4,b5,b6⟩=(ca != cb)):=lH (by unfold brX;rw[CO,zK]);clear CO zK
        go_quiet ((first | (go_at_call_of 47 (Value.string fr);exact(HCA.o _).mono (fun _ _ hh=>⟨hh.1,_,hh.2⟩)) | (go_at_call_of 47 (Value.string tn);exact(TE.o _).mono (fun _ _ hh=>⟨hh.1,_,hh.2⟩))))
        clear HCA TE z1 z2 zl HZ;replace HO:=lH (AN HO.o (aS bR nq));replace HB:=lH (aS HB.o nq);replace HX:=lH (HX.o.drewN nq);generalize wa.drewN nq=wd at *;have cP:=HX.o.lt;cases ca<;>cases cb
        ·have HE:Hid (iC part x.brs 0=out++iC part (x.brs.drop (k+1)) (k+1)):=lH (by rw[HG.o,HD.o,PV.o];rfl)
         (go_wp2_with fail);go_roundw
         case rel=>exact⟨k+1,out,aR,aM gB.o,by omega,HE.o,HO.o,HB.o,HX.o⟩
         case measure=>exact e_.o
        ·have HE:Hid (iC part x.brs 0=(out++[(k:Int)])++iC part (x.brs.drop (k+1)) (k+1)):=lH (by rw[HG.o,HD.o,PV.o,List.append_assoc];rfl)
         go_wp2_with (at_builtin;refine xN rfl (.tmp 78) (.tmp 80) _ rfl (w.heap.size+1) 3 i0 _ 1 8 Tryz.underlying47 yT.o xK.o CE.o CD.o rfl (by omega) u11 out.length (bK out) rfl HO.o rfl rfl ?k1 ?k2 ?k3 cP ?_)
         case k1=>simp[Value.oneCell']
         case k2=>simp only[maxLen];omega
         case k3=>omega
         intro v' w6 hown6 eE hg6;have S8:Hid (w6.ownsRow (w.heap.size+1) 3 1 v' (out++[(k:Int)]).length (bK (out++[(k:Int)]))):=lH (by rw[jO,List.length_singleton];simpa[bK] using hown6);have fR:Below w.heap.size w w6:=HB.o.trans (eE.mono (Nat.le_succ _));have HX6:=lH (HX.o.below eE (Nat.lt_succ_self _));have d6:=lH fR;clear hown6 eE hg6 fR;(go_wp2_with fail);go_roundw
         case rel=>exact⟨k+1,out++[(k:Int)],aR,aM gB.o,by rw[jO,List.length_singleton];omega,HE.o,S8.o,d6.o,HX6.o⟩
         case measure=>exact e_.o
        ·have HE:Hid (iC part x.brs 0=(out++[(k:Int)])++iC part (x.brs.drop (k+1)) (k+1)):=lH (by rw[HG.o,HD.o,PV.o,List.append_assoc];rfl)
         go_wp2_with (at_builtin;refine xN rfl (.tmp 78) (.tmp 80) _ rfl (w.heap.size+1) 3 i0 _ 1 8 Tryz.underlying47 yT.o xK.o CE.o CD.o rfl (by omega) u11 out.length (bK out) rfl HO.o rfl rfl ?k1 ?k2 ?k3 cP ?_)
         case k1=>simp[Value.oneCell']
         case k2=>simp only[maxLen];omega
         case k3=>omega
         intro v' w6 hown6 eE hg6;have S8:Hid (w6.ownsRow (w.heap.size+1) 3 1 v' (out++[(k:Int)]).length (bK (out++[(k:Int)]))):=lH (by rw[jO,List.length_singleton];simpa[bK] using hown6);have fR:Below w.heap.size w w6:=HB.o.trans (eE.mono (Nat.le_succ _));have HX6:=lH (HX.o.below eE (Nat.lt_succ_self _));have d6:=lH fR;clear hown6 eE hg6 fR;(go_wp2_with fail);go_roundw
         case rel=>exact⟨k+1,out++[(k:Int)],aR,aM gB.o,by rw[jO,List.length_singleton];omega,HE.o,S8.o,d6.o,HX6.o⟩
         case measure=>exact e_.o
        ·have HE:Hid (iC part x.brs 0=out++iC part (x.brs.drop (k+1)) (k+1)):=lH (by rw[HG.o,HD.o,PV.o];rfl)
         (go_wp2_with fail);go_roundw
         case rel=>exact⟨k+1,out,aR,aM gB.o,by omega,HE.o,HO.o,HB.o,HX.o⟩
         case measure=>exact e_.o
       ·have iM:¬(k:Int)<(m2:Int):=by omega
        have nD:Hid (qQ x part=out):=lH (by rw[HL.o,HG.o,List.drop_eq_nil_of_le (by have:=lm2.out;omega)];simp[iC]);obtain⟨A6,c6,hv,FV,h1,h2,-⟩:=wM HO.o;subst hv;have PX:=lH FV;clear FV;(go_wp2_with fail);go_ret2;rw[HE.o,nD.o];exact⟨HB.o,_,_,_,rfl,PX.o,h1,h2⟩
 ·have HE:Hid (n_ x part=d8 x):=lH (by unfold n_;rw[if_neg h0])
  have HL:Hid (qQ x part=[]):=lH (by unfold qQ;rw[HE.o,if_neg h0]);generalize d8 x=z at *;subst he;have h0b:(z != 0)=true:=by simp[h0]
  clear h0;(go_wp2_with fail);go_ret2;rw[HE.o,HL.o];exact qR cR.o rfl
theorem J6:∀(l:List Br)(k:Nat)(i:Int),i∈iC part l k->∃j:Nat,i=((k+j:Nat):Int)/\j<l.length
 | [],_,_,h=>by simp[iC] at h
 | b::r,k,i,h=>by
  unfold iC at h;have key:i∈iC part r (k+1)->∃j:Nat,i=((k+j:Nat):Int)/\j<(b::r).length:=fun h=>by
   obtain⟨j,h1,h2⟩:=J6 r (k+1) i h;exact⟨j+1,by rw[h1];congr 1;omega,by simp;omega⟩
  split at h
  ·rcases List.mem_cons.1 h with h | h
   ·exact⟨0,by rw[h];rfl,by simp⟩
   ·exact key h
  ·exact key h
theorem PM{i:Int}(h:i∈qQ x part):∃j:Nat,i=(j:Int)/\j<x.brs.length:=by
 unfold qQ at h;split at h
 ·obtain⟨j,h1,h2⟩:=J6 _ _ _ h
  exact⟨j,by rw[h1,Nat.zero_add],h2⟩
 ·simp at h
def EK(x:bP)(part fl:List ByteArray)(i:Int):Rat:=match fl[i.toNat]?,x.brs[i.toNat]? with
 | some s,some b=>if ct part b.to then fB s else -(fB s)
 | _,_=>0
def pZ(x:bP)(part fl:List ByteArray):Int:=if n_ x part=0 then(if fl.length=x.brs.length then dA fl else 3) else n_ x part
def qP(x:bP)(part fl:List ByteArray):List Rat:=if pZ x part fl=0 then(qQ x part).map (EK x part fl) else[]
def EnP(qs:List Rat)(z:Int)(w:Wo)(e:Ending)(w':Wo):Prop:=Below w.heap.size w w'/\∃A n c,e=.returned (.tuple #[.slice A n c,.int .i64 z])/\hO w' w'.heap.size A n qs/\n<=c/\c<=maxLen
theorem BP{z:Int}{e:Ending}(hb:Below w.heap.size w w')(he:e=.returned (.tuple #[.slice none 0 0,.int .i64 z])):EnP [] z w e w':=⟨hb,none,0,0,he,aBg _ _ _,lR,by simp[maxLen]⟩
theorem ZM(h:n_ x part=0):d8 x=0:=by
 refine Classical.byContradiction fun hc=>?_;unfold n_ at h;rw[if_neg hc] at h;exact hc h
theorem sG(h:cQ)(x:bP)(A:OA)(n c:Nat)(part:List ByteArray)(F:OA)(f fc:Nat)(fl:List ByteArray)(w:Wo)(r:cX w w.heap.size h x)(hp:aW w w.heap.size A n part)(hf:aW w w.heap.size F f fl)(hfs:∀s∈fl,s.size<=maxLen)(hn:n<=9223372036854775807)(GU:n<=c)(hc:c<=9223372036854775807)(XX:f<=9223372036854775807)(ht:eY w):Calls Tryz.prog 45 #[.agg h.cells,.slice A n c,.slice F f fc] w (EnP (qP x part fl) (pZ x part fl) w):=by
 have K0:=vM w (.cells h.cells 29);obtain⟨HK,HR,HP,zQ,HF⟩:=mP K0 r hp hp.1 hf;obtain⟨DH,HFS,HT,HX,m9⟩:=mP hf.1 hfs ht (aD.new w 29 h.cells) r;have HC:=lH (pB h x A n c part _ (r.up K0) (hp.bm K0) hn GU hc);have HLB:Hid (x.brs.length=h.n2):=lH r.r2.1;have bm2:=r.m2;obtain⟨i0,jL,pF,kT,kS⟩:=jW;obtain⟨yT,xK,CE,CD⟩:=gO jL pF kT kS;clear K0 r hp hf hfs ht jL pF kT kS;obtain⟨A0,m0,c0,A1,m1,c1,A2,m2,c2,A3,m3,c3,A4,m4,c4,A5,m5,c5⟩:=h;simp only[cQ.cells] at HK HX HC HLB bm2 ⊢;go_enter Tryz.func45,Tryz.ntmps45
 go_upto_region 1 with fail
 generalize w.alloc (.cells #[.slice A0 m0 c0,.slice A1 m1 c1,.slice A2 m2 c2,.slice A3 m3 c3,.slice A4 m4 c4,.slice A5 m5 c5] 29)=W at *;obtain⟨y0,y1,y2,y3,y4,y5,xY⟩:=HX.o.b6
 go_wp2_with fail
 refine HC.o.mono ?_;clear y0 y1 y2 y3 y4 y5 xY HC;rintro e w1 ⟨bG,L,ln,lc,rfl,hl,hlc,hlm⟩;have cR:=bX HK bG;obtain⟨dE,HL,nD⟩:=eR (HX.o.bl bG) hl hl.len;clear bG HK HX hl;by_cases h0:n_ x part=0
 ·have H0:=lH h0
  rw[h0];clear h0;have y2:=dE.o.cell 2;have yl:=dE.o.lt;by_cases h1:f=m2
  ·subst h1
   have P8:Hid (pZ x part fl=dA fl):=lH (by unfold pZ;rw[if_pos H0.o,if_pos (by rw[DH.o,HLB.o])]);have LJ:=lH (EV F f fc fl w1 (HF.o.bm cR.o) HFS.o XX (HT.o.up cR.o));(go_wp2_with fail);clear y2 yl;refine LJ.o.mono ?_;clear LJ;rintro e w2 ⟨he,bV⟩;have dB:=bX cR bV;have eT:=lH (dE.o.bl bV);have N6:Hid (oA w2 w2.heap.size L ln (qQ x part)):=lH (HL.o.bm bV);clear bV cR dE HL;by_cases h2:dA fl=0
   ·have HV:=lH (nX.1 h2)
    have tL:Hid (pZ x part fl=0):=lH (by rw[P8.o,h2]);rw[h2] at he;subst he;clear h2;(go_wp2_with fail);generalize XW:w2.heap.size=g0 at *;have HG0:=lH XW;clear XW
    go_loopw [11,37] (fun v11 v37 wr=>∃(k:Nat)(vs:List Rv),k<=ln/\v37=.int .i64 k/\dD wr g0 v11 vs (((qQ x part).take k).map (EK x part fl))/\Below g0 w2 wr) (fun _ v37 _=>ln-(intOf v37).toNat)
    case atStart=>exact⟨0,[],by omega,rfl,by rw[List.take_zero];exact lO _ _,bR⟩
    case round=>
     obtain⟨k,vs,hk,rfl,ho,hb⟩:=hrel;have HO:=lH ho;have HOL:Hid (vs.length=k):=lH (by have:=ho.len;rw[kJ,kC,nD.o] at this;omega);have HB:=lH hb;have vQ:=lH (dB.o.trans (hb.mono (by rw[<-HG0.o];exact dB.o.size)));clear ho hb;by_cases aR:k<ln
     ·obtain⟨i,hi⟩:∃i,(qQ x part)[k]?=some i:=eG (by have:=nD.o;omega)
      obtain⟨j,hj,pQ⟩:=PM (cS hi);subst hj;have hjf:j<f:=by rw[<-HLB.o];exact pQ
      obtain⟨s,hs⟩:∃s,fl[j]?=some s:=eG (by have:=DH.o;omega);obtain⟨bb,pY⟩:∃bb,x.brs[j]?=some bb:=⟨_,jP pQ⟩;have HEF:Hid (EK x part fl (j:Int)=if ct part bb.to then fB s else -(fB s)):=lH (by unfold EK;rw[oL,hs,pY]);have KT:Hid (((qQ x part).take (k+1)).map (EK x part fl)=((qQ x part).take k).map (EK x part fl)++[EK x part fl (j:Int)]):=lH (by rw[fG hi,List.map_append];rfl);obtain⟨lb,lo,hA,hlb,-⟩:=N6.o.2 (by omega);subst hA;have X0:=(N6.o.below HB.o lR).at_ hi;have aMo:lb<wr.heap.size:=by have:=HB.o.size;have:=HG0.o;omega
      obtain⟨fb,fo,hA,yN⟩:=HF.o.form (by omega);subst hA;have hcf:=(HF.o.below vQ.o lR).at_ hs;have M5:fb<wr.heap.size:=jJ yN vQ.o.size;have HBB:=lH pY;have HSV:=lH (HV.o s (cS hs));have iM:(k:Int)<(ln:Int):=by omega
      have hjI:(j:Int)<(f:Int):=by omega
      have JF:=lZ j;have tP:=oL j;have gB:=lN k;have e_:Hid (ln-(k+1)<ln-k):=lH (by omega);clear hi hs pY pQ hlb yN;(go_wp2_with fail);refine(aD8 HSV.o wr).mono ?_;rintro e w3 ⟨eF,v3,rfl,h3⟩;have N7:Hid (g0<=wr.heap.size):=lH (by have:=HB.o.size;have:=HG0.o;omega);obtain⟨gY,HO3,H3⟩:=eR (HB.o.trans (eF.mono N7.o)) (HO.o.keep eF) h3;have aFR:Hid (g0<=w3.heap.size):=lH (eN N7.o eF.size);clear eF h3 X0 hcf HO HB vQ N7 aMo M5;(go_upto_region 14 with fail);have h_:=vM w3 (.cells #[.bool v3.b1,.slice v3.A v3.n v3.c,.bool v3.b2,.slice v3.A2 v3.m v3.d] 87);have HZ:Hid (aD (w3.alloc (.cells #[.bool v3.b1,.slice v3.A v3.n v3.c,.bool v3.b2,.slice v3.A2 v3.m v3.d] 87)) w3.heap.size 87 #[.bool v3.b1,.slice v3.A v3.n v3.c,.bool v3.b2,.slice v3.A2 v3.m v3.d]):=lH (aD.new w3 _ _);obtain⟨bH,aKm,H4⟩:=eR (gY.o.trans (h_.mono aFR.o)) h_ (H3.o.up h_);have aJ7:Hid (g0<=(w3.alloc (.cells #[.bool v3.b1,.slice v3.A v3.n v3.c,.bool v3.b2,.slice v3.A2 v3.m v3.d] 87)).heap.size):=lH (eN aFR.o h_.size);clear h_ gY H3;generalize w3.alloc (.cells #[.bool v3.b1,.slice v3.A v3.n v3.c,.bool v3.b2,.slice v3.A2 v3.m v3.d] 87)=w4 at *;have HGB:Hid (g0<=w3.heap.size):=aFR;generalize yM:w3.heap.size=gb at *;have TB:=lH yM;clear yM;have aCI:Hid (Below w.heap.size w w4):=lH (dB.o.trans (bH.o.mono (by rw[<-HG0.o];exact dB.o.size)));have HX4:=lH (eT.o.below bH.o (by rw[<-HG0.o];exact eT.o.lt));have pK:=lH (m9.o.below aCI.o lR);obtain⟨nb,no,hA,hnb⟩:=pK.o.r2.form (show 0<f by omega);simp only at hA;subst hA;obtain⟨a0,a1,a2,a3,a4,a5,a6,a7,a8⟩:=pK.o.r2.at_ HBB.o;obtain⟨nm,fr,tn,b1,b2,b3,b4,b5,b6⟩:=bb;simp only at a2 HEF;have HRP:=lH (HP.o.bm aCI.o);obtain⟨cb,zK⟩:∃cb,ct part tn=cb:=⟨_,rfl⟩;have G0:Hid (ln<=1000000):=lH (by
       have:=nD.o;rw[<-this];unfold qQ;rw[if_pos H0.o];have:=u9 part x.brs 0;have:=(fH (ZM H0.o)).l2;omega)
      have aTb:ln<=1000000:=G0.o;have y2:=HX4.o.cell 2;have yl:=HX4.o.lt;have hnl:nb<w4.heap.size:=jJ hnb aCI.o.size;clear a0 a1 a3 a4 a5 a6 a7 a8 hnb;(go_wp2_with fail);refine(eB A n c part tn w4 HRP.o hn).mono ?_;rintro e w5 ⟨he,hw⟩;subst hw;have he2:e=.returned (.bool cb):=by rw[he,<-zK];rfl
      subst he2;rw[zK] at HEF;clear he zK y2 yl hnl a2;cases cb with
      | true=>
       have N1:Hid (EK x part fl (j:Int)=fB s):=lH (by rw[HEF.o];rfl);have HBG:Hid (Below gb w3 w4):=lH (by have h:=aKm.o;exact h);have aCM:=bH;have HZ7:=HZ;clear HEF;have HOW:=lH (HO3.o.keep (by rw[TB.o];exact HBG.o));have HBZ:=lH (aCM.o);have HG7:Hid (g0<=w4.heap.size):=lH (eN HGB.o (by have:=HBG.o.size;have:=TB.o;omega));obtain⟨z0,z1,z2,z3,zl⟩:=HZ7.o.b4
       go_wp2_with (at_builtin;refine qD rfl (.tmp 57) (.tmp 59) _ rfl g0 Tryz.underlying96 u11 vs _ rfl HOW.o v3 _ H4.o rfl ?k1 HG7.o ?_)
       case k1=>rw[kJ,kC];have:=G0.o;omega
       intro v' w8 bB pI mL;have GZ:=lH bB;have hX:=lH (HBZ.o.trans mL);clear bB pI mL z0 z1 z2 z3 zl;(go_wp2_with fail);go_roundw
       case rel=>exact⟨k+1,vs++[v3],aR,aM gB.o,by rw[KT.o,N1.o];have h:=GZ.o;rw[<-List.map_take] at h;exact h,hX.o⟩
       case measure=>exact e_.o
      | false=>
       have N1:Hid (EK x part fl (j:Int)=-(fB s)):=lH (by rw[HEF.o];rfl);obtain⟨z0,z1,z2,z3,zl⟩:=HZ.o.b4;clear HEF;(go_wp2_with fail);refine(aLB H4.o).mono ?_;rintro e w6 ⟨eE,v6,rfl,h6⟩;clear z0 z1 z2 z3 zl;have aKk:Hid (Below gb w3 w6):=lH (by have h:=aKm.o;exact h.trans (eE.mono (qY HZ.o.lt)));obtain⟨aKl,HZ6,H6⟩:=eR (bH.o.trans (eE.mono aJ7.o)) (HZ.o.bl eE) h6;clear eE h6 H4 HZ bH pK HX4 aCI aJ7;obtain⟨p0,p1,p2,p3,pf,pl⟩:=HZ6.o.e4;(go_upto_region 16 with fail);have HBG:Hid (Below gb w3 (oU w6 gb v6)):=lH (eL aKk.o lR);have aCM:Hid (Below g0 w2 (oU w6 gb v6)):=lH (eL aKl.o HGB.o);have HZ7:Hid (aD (oU w6 gb v6) gb 87 #[.bool v6.b1,.slice v6.A v6.n v6.c,.bool v6.b2,.slice v6.A2 v6.m v6.d]):=lH (FJ HZ6.o);have H7:Hid (cY (oU w6 gb v6) (oU w6 gb v6).heap.size (-(fB s)) v6):=lH (cY.keepq H6.o HZ6.o);unfold oU at HBG aCM HZ7 H7;clear p0 p1 p2 p3 pl pf HZ6 H6 aKk aKl;generalize (((w6.setCell ⟨gb,0,none⟩ _).setCell ⟨gb,1,none⟩ _).setCell ⟨gb,2,none⟩ _).setCell ⟨gb,3,none⟩ _=w7 at *;have HOW:=lH (HO3.o.keep (by rw[TB.o];exact HBG.o));have HBZ:=lH (aCM.o);have HG7:Hid (g0<=w7.heap.size):=lH (eN HGB.o (by have:=HBG.o.size;have:=TB.o;omega));obtain⟨z0,z1,z2,z3,zl⟩:=HZ7.o.b4
       go_wp2_with (at_builtin;refine qD rfl (.tmp 57) (.tmp 59) _ rfl g0 Tryz.underlying96 u11 vs _ rfl HOW.o v6 _ H7.o rfl ?k1 HG7.o ?_)
       case k1=>rw[kJ,kC];have:=G0.o;omega
       intro v' w8 bB pI mL;have GZ:=lH bB;have hX:=lH (HBZ.o.trans mL);clear bB pI mL z0 z1 z2 z3 zl;(go_wp2_with fail);go_roundw
       case rel=>exact⟨k+1,vs++[v6],aR,aM gB.o,by rw[KT.o,N1.o];have h:=GZ.o;rw[<-List.map_take] at h;exact h,hX.o⟩
       case measure=>exact e_.o
     ·have pP:k=ln:=by omega
      subst pP;have iM:¬(k:Int)<(k:Int):=by omega
      have KT:Hid (((qQ x part).take k).map (EK x part fl)=qP x part fl):=lH (by
       unfold qP;rw[if_pos tL.o,oP (by rw[nD.o];exact lR)])
      obtain⟨A9,c9,hv,FV,h1,h2,-⟩:=HO.o.rd;subst hv;have PX:=lH FV;clear FV;generalize hqn:(((qQ x part).take k).map (EK x part fl)).length=qn at *;(go_wp2_with fail);go_ret2;refine⟨vQ.o,A9,qn,c9,by rw[tL.o];rfl,by rw[<-KT.o];exact PX.o,h1,h2⟩
   ·have tL:Hid (qP x part fl=[]):=lH (by unfold qP;rw[if_neg (by rw[P8.o];exact h2)])
    generalize hz:dA fl=z at *;subst he;have h0b:(z != 0)=true:=by simp[h2]
    clear h2;(go_wp2_with fail);go_ret2;rw[P8.o,tL.o];exact BP dB.o rfl
  ·have P8:Hid (pZ x part fl=3):=lH (by unfold pZ;rw[if_pos H0.o,if_neg (by rw[DH.o,HLB.o];exact h1)])
   have tL:Hid (qP x part fl=[]):=lH (by unfold qP;rw[if_neg (by rw[P8.o];decide)]);have h1I:((f:Int) != (m2:Int))=true:=by simp;omega
   (go_wp2_with fail);go_ret2;rw[P8.o,tL.o];exact BP cR.o rfl
 ·have P8:Hid (pZ x part fl=n_ x part):=lH (by unfold pZ;rw[if_neg h0])
  have tL:Hid (qP x part fl=[]):=lH (by unfold qP;rw[if_neg (by rw[P8.o];exact h0)]);generalize n_ x part=z at *;have h0b:(z != 0)=true:=by simp[h0]
  clear h0;(go_wp2_with fail);go_ret2;rw[P8.o,tL.o];exact BP cR.o rfl
end
section
def l8(x:bP)(part:List ByteArray):List ByteArray:=x.nodes.filter fun s=>!ct part s
theorem uZ{s:ByteArray}(h:s∈x.nodes):ct (l8 x part) s=!ct part s:=by
 rw[Bool.eq_iff_iff,mI];unfold l8;rw[List.mem_filter];exact⟨fun a=>a.2,fun a=>⟨h,a⟩⟩
theorem VI{nodes:List ByteArray}(hn:part.Nodup)(hm:∀s∈part,s∈nodes):∀(l:List ByteArray)(k:Nat),part.drop k=l->GR nodes part l k=0
 | [],_,_=>rfl
 | s::r,k,h=>by
  have hk:part[k]?=some s:=by
   have:=congrArg (fun l=>l[0]?) h;simpa using this
  have hs:=cS hk;have hr:part.drop (k+1)=r:=by rw[<-List.drop_drop,h];rfl
  unfold GR;rw[if_pos (mI.2 (hm s hs)),if_neg,VI hn hm r (k+1) hr];intro hc;have ht:=mI.1 hc;rw[<-List.take_append_drop k part,h,List.nodup_append] at hn;exact hn.2.2 s ht s (List.mem_cons_self ..) rfl
theorem m6(h:n_ x part=0):d8 x=0/\¬(x.sws.any (CJ part)=true):=by
 unfold n_ at h;split at h
 ·rename_i h1
  refine⟨h1,?_⟩;split at h
  ·split at h
   ·cases h
   ·assumption
  ·exact absurd h (by assumption)
 ·exact absurd h (by assumption)
theorem KK(h:n_ x part=0):n_ x (l8 x part)=0:=by
 obtain⟨h1,h2⟩:=m6 h;have kU:=fH h1;have GT:=WC h1;have h3:GR x.nodes (l8 x part) (l8 x part) 0=0:=VI (GT.nd.sublist List.filter_sublist) (fun s hs=>(List.mem_filter.1 hs).1) _ 0 rfl;have h4:¬(x.sws.any (CJ (l8 x part))=true):=by
  intro ha;apply h2;obtain⟨s,hs,hx⟩:=List.any_eq_true.1 ha;refine List.any_eq_true.2 ⟨s,hs,?_⟩;unfold CJ at hx ⊢;rw[uZ (kU.sw s hs).1,uZ (kU.sw s hs).2.1] at hx
  revert hx
  cases s.opn<;>cases ct part s.a<;>cases ct part s.b<;>decide
 unfold n_;rw[if_pos h1,if_pos h3,if_neg h4]
theorem ZJ{b:Br}(h1:b.fr∈x.nodes)(h2:b.to∈x.nodes):brX (l8 x part) b=brX part b:=by
 unfold brX;rw[uZ h1,uZ h2];cases ct part b.fr<;>cases ct part b.to<;>rfl
theorem ET:∀(l:List Br)(k:Nat),(∀b∈l,b.fr∈x.nodes/\b.to∈x.nodes)->iC (l8 x part) l k=iC part l k
 | [],_,_=>rfl
 | b::r,k,h=>by
  have hb:=h b (List.mem_cons_self ..);unfold iC;rw[ZJ hb.1 hb.2,ET r (k+1) fun y hy=>h y (List.mem_cons_of_mem _ hy)]
theorem ZL(h:n_ x part=0):qQ x (l8 x part)=qQ x part:=by
 have kU:=fH (m6 h).1;unfold qQ;rw[if_pos h,if_pos (KK h),ET _ _ fun b hb=>⟨(kU.br b hb).1,(kU.br b hb).2.1⟩]
theorem nV(h:pZ x part fl=0):n_ x part=0/\fl.length=x.brs.length/\dA fl=0:=by
 unfold pZ at h;split at h
 ·rename_i h1
  refine⟨h1,?_⟩;split at h
  ·exact⟨by assumption,h⟩
  ·cases h
 ·exact absurd h (by assumption)
theorem JU(h:pZ x part fl=0){i:Int}(hi:i∈qQ x part):EK x (l8 x part) fl i=-EK x part fl i/\bJ (EK x part fl i):=by
 obtain⟨h1,h2,h3⟩:=nV h;have kU:=fH (m6 h1).1;obtain⟨j,hj,pQ⟩:=PM hi;subst hj;obtain⟨s,hs⟩:∃s,fl[j]?=some s:=eG (by omega);obtain⟨b,hb⟩:∃b,x.brs[j]?=some b:=⟨_,jP pQ⟩;have hv:=zY (nX.1 h3 s (cS hs));unfold EK;rw[oL,hs,hb];simp only;rw[uZ (kU.br b (cS hb)).2.1];cases ct part b.to
 ·refine⟨?_,JR hv⟩
  simp[Rat.neg_neg]
 ·exact⟨by simp,hv⟩
theorem Q6(h:pZ x part fl=0):pZ x (l8 x part) fl=0/\qP x (l8 x part) fl=(qP x part fl).map (fun q=>-q)/\(∀q∈qP x part fl,bJ q)/\(∀q∈qP x (l8 x part) fl,bJ q):=by
 obtain⟨h1,h2,h3⟩:=nV h;have h4:pZ x (l8 x part) fl=0:=by unfold pZ;rw[if_pos (KK h1),if_pos h2,h3]
 have h5:qP x (l8 x part) fl=(qP x part fl).map (fun q=>-q):=by
  unfold qP;rw[if_pos h,if_pos h4,ZL h1,List.map_map];exact List.map_congr_left fun i hi=>(JU h hi).1
 have h6:∀q∈qP x part fl,bJ q:=fun q hq=>by
  unfold qP at hq;rw[if_pos h] at hq;obtain⟨i,hi,e⟩:=List.mem_map.1 hq;rw[<-e];exact(JU h hi).2
 refine⟨h4,h5,h6,fun q hq=>?_⟩;rw[h5] at hq;obtain⟨p,hp,e⟩:=List.mem_map.1 hq;rw[<-e];exact JR (h6 p hp)
end
section
open Go.ChangeShapes Go.WideShapes Go.ChangeAt Go.RowKit
attribute [local go_sem ↓] aE
attribute [local go_sem] aJ aI aL aX cQ.cells
def qF(v:Vc):Bool:=v.ss.all fun s=>decide (s.size<=24)
def iX(x:bP)(ms:List Mi)(vs:List Vc):Bool:=decide (x.nodes.length<=8) && decide (x.brs.length<=10) && ms.all (fun m=>decide (m.txt.size<=24)) && vs.all qF
theorem BZ{α:Type}{l:List α}{x:α}(f:α->Bool)(h:l[k]?=some x):(l.drop k).all f=(f x && (l.drop (k+1)).all f):=by rw[bW h];rfl
theorem QQ(h:cQ)(x:bP)(A:OA)(n c:Nat)(ms:List Mi)(B:OA)(m d:Nat)(vs:List Vc)(w:Wo)(r:cX w w.heap.size h x)(hm:lJ w w.heap.size A n ms)(hv:tD w w.heap.size B m vs)(hn:n<=9223372036854775807)(hmm:m<=9223372036854775807):Calls Tryz.prog 9 #[.agg h.cells,.slice A n c,.slice B m d] w fun e w'=>e=.returned (.bool (iX x ms vs))/\Below w.heap.size w w':=by
 have K0:=vM w (.cells h.cells 29);obtain⟨HK,HM,P1,HV,E4⟩:=mP K0 hm hm.1 hv hv.1;have l0:=r.r0.1;have l2:=r.r2.1;have m0:=r.m0;have m2:=r.m2;obtain⟨y0,y1,y2,y3,y4,y5,nf,nlt⟩:=cG (aD.new w 29 h.cells);simp only[cQ.cells] at HK y0 y1 y2 y3 y4 y5 nf nlt;clear K0 r hm hv;go_enter Tryz.func9,Tryz.ntmps9
 go_upto_region 1 with fail
 generalize w.alloc (.cells #[.slice h.A0 h.n0 h.c0,.slice h.A1 h.n1 h.c1,.slice h.A2 h.n2 h.c2,.slice h.A3 h.n3 h.c3,.slice h.A4 h.n4 h.c4,.slice h.A5 h.n5 h.c5] 29)=W at *;by_cases g0:8<h.n0
 ·have g0I:(8:Int)<(h.n0:Int):=by omega
  have HE:Hid (iX x ms vs=false):=lH (by unfold iX;rw[decide_eq_false (by rw[l0];omega)];rfl);(go_wp2_with fail);go_ret;exact⟨by rw[HE.o];rfl,HK.o⟩
 ·by_cases g2:10<h.n2
  ·have g0I:¬(8:Int)<(h.n0:Int):=by omega
   have g2I:(10:Int)<(h.n2:Int):=by omega
   have HE:Hid (iX x ms vs=false):=lH (by unfold iX;rw[decide_eq_false (p:=x.brs.length<=10) (by rw[l2];omega),Bool.and_false];rfl);(go_wp2_with fail);go_ret;exact⟨by rw[HE.o];rfl,HK.o⟩
  ·have g0I:¬(8:Int)<(h.n0:Int):=by omega
   have g2I:¬(10:Int)<(h.n2:Int):=by omega
   have HS:Hid (iX x ms vs=(ms.all (fun m=>decide (m.txt.size<=24)) && vs.all qF)):=lH (by unfold iX;rw[decide_eq_true (by rw[l0];omega),decide_eq_true (by rw[l2];omega)];rfl);clear g0 g2 m0 m2;(go_wp2_with fail);clear g0I g2I y0 y1 y2 y3 y4 y5 nf nlt l0 l2
   go_loopw [25] (fun v25 wr=>∃k:Nat,k<=n/\v25=.int .i64 k/\ms.all (fun m=>decide (m.txt.size<=24))=(ms.drop k).all (fun m=>decide (m.txt.size<=24))/\Below w.heap.size w wr) (fun v25 _=>n-(intOf v25).toNat)
   case atStart=>exact⟨0,by omega,rfl,rfl,HK.o⟩
   case round=>
    clear HK;obtain⟨k,hk,rfl,mG,hb⟩:=hrel;have HG:=lH mG;have HB:=lH hb;clear mG hb;by_cases aR:k<n
    ·obtain⟨z,hz⟩:∃z,ms[k]?=some z:=eG (by have:=P1.o;omega)
     obtain⟨b,off,hA,hb⟩:=(HM.o.below HB.o lR).form (by omega);subst hA;obtain⟨c0,c1,c2,c3⟩:=(HM.o.below HB.o lR).at_ hz;have nG:b<wr.heap.size:=jJ hb HB.o.size;have HD:=lH (BZ (fun m:Mi=>decide (m.txt.size<=24)) hz);have iM:(k:Int)<(n:Int):=by omega
     have gB:=lN k;have e_:Hid (n-(k+1)<n-k):=lH (by omega);clear hz hb;(go_upto_region 6 with fail);clear c0 c1 c2 c3;generalize lQ:wr.alloc (.cells #[.int .i64 z.kind,.string z.name,.string z.txt,.int .i64 z.wt] 80)=wa;have fP:Below wr.heap.size wr wa:=by rw[<-lQ];exact bA
     have HZ:Hid (aD wa wr.heap.size 80 #[.int .i64 z.kind,.string z.name,.string z.txt,.int .i64 z.wt]):=lH (by rw[<-lQ];exact aD.new wr _ _);have G2:=bX HB fP;clear lQ fP nG HB;obtain⟨c0,c1,c2,c3,cf,cl⟩:=Mi.box HZ.o;clear HZ;by_cases hs:24<z.txt.size
     ·have hsI:(24:Int)<(z.txt.size:Int):=by omega
      have HE:Hid (iX x ms vs=false):=lH (by rw[HS.o,HG.o,HD.o,decide_eq_false (by omega)];rfl);(go_wp2_with fail);go_ret;exact⟨by rw[HE.o];rfl,G2.o⟩
     ·have hsI:¬(24:Int)<(z.txt.size:Int):=by omega
      have HE:Hid (ms.all (fun m=>decide (m.txt.size<=24))=(ms.drop (k+1)).all (fun m=>decide (m.txt.size<=24))):=lH (by rw[HG.o,HD.o,decide_eq_true (by omega),Bool.true_and]);clear hs;(go_wp2_with fail);go_roundw
      case rel=>exact⟨k+1,aR,aM gB.o,HE.o,G2.o⟩
      case measure=>exact e_.o
    ·have iM:¬(k:Int)<(n:Int):=by omega
     have jR:Hid (iX x ms vs=vs.all qF):=lH (by rw[HS.o,HG.o,List.drop_eq_nil_of_le (by have:=P1.o;omega)];rfl);clear HS HG;(go_wp2_with fail);clear iM hk aR;generalize wr=wz at *
     go_loopw [36] (fun v36 wr=>∃k:Nat,k<=m/\v36=.int .i64 k/\vs.all qF=(vs.drop k).all qF/\Below w.heap.size w wr) (fun v36 _=>m-(intOf v36).toNat)
     case atStart=>exact⟨0,by omega,rfl,rfl,HB.o⟩
     case round=>
      clear HB;obtain⟨i,hi,rfl,mG,hb⟩:=hrel;have HG:=lH mG;have HB:=lH hb;clear mG hb;by_cases aR:i<m
      ·obtain⟨v,hv⟩:∃v,vs[i]?=some v:=eG (by have:=E4.o;omega)
       obtain⟨b,off,hA,hb⟩:=(HV.o.below HB.o lR).form (by omega);subst hA;have c0:=(HV.o.below HB.o lR).at_ hv;have nG:b<wr.heap.size:=jJ hb HB.o.size;have HD:=lH (BZ qF hv);have KS:=lH (HV.o.2.2 v (cS hv)).1;have hvn:=(HV.o.2.2 v (cS hv)).2;have CZ:(i:Int)<(m:Int):=by omega
       have HM1:=lN i;have HM2:Hid (m-(i+1)<m-i):=lH (by omega);clear hv hb;(go_wp2_with fail);clear c0 nG;generalize wr=wy at *
       go_loopw [42] (fun v42 wr=>∃k:Nat,k<=v.n/\v42=.int .i64 k/\qF v=(v.ss.drop k).all (fun s=>decide (s.size<=24))/\Below w.heap.size w wr) (fun v42 _=>v.n-(intOf v42).toNat)
       case atStart=>exact⟨0,by omega,rfl,rfl,HB.o⟩
       case round=>
        clear HB;obtain⟨k,hk,rfl,mG,hb⟩:=hrel;have fW:=lH mG;have HB:=lH hb;clear mG hb;have HVN:=lH KS.o.1;by_cases aEA:k<v.n
        ·obtain⟨s,hs⟩:∃s,v.ss[k]?=some s:=eG (by have:=HVN.o;omega)
         obtain⟨b2,off2,R_,hb⟩:=(KS.o.below HB.o lR).form (by omega);have c0:=KS.o.below HB.o lR;rw[R_] at c0;replace c0:=c0.at_ hs;have nG:b2<wr.heap.size:=jJ hb HB.o.size;have HD2:=lH (BZ (fun s:ByteArray=>decide (s.size<=24)) hs);have iM:(k:Int)<(v.n:Int):=by omega
         have gB:=lN k;have e_:Hid (v.n-(k+1)<v.n-k):=lH (by omega);clear hs hb;by_cases hz:24<s.size
         ·have hsI:(24:Int)<(s.size:Int):=by omega
          have HE:Hid (iX x ms vs=false):=lH (by rw[jR.o,HG.o,HD.o,fW.o,HD2.o,decide_eq_false (by omega)];rfl);(go_wp2_with fail);go_ret;exact⟨by rw[HE.o];rfl,HB.o⟩
         ·have hsI:¬(24:Int)<(s.size:Int):=by omega
          have HE:Hid (qF v=(v.ss.drop (k+1)).all (fun s=>decide (s.size<=24))):=lH (by rw[fW.o,HD2.o,decide_eq_true (by omega),Bool.true_and]);clear hz;(go_wp2_with fail);go_roundw
          case rel=>exact⟨k+1,aEA,aM gB.o,HE.o,HB.o⟩
          case measure=>exact e_.o
        ·have iM:¬(k:Int)<(v.n:Int):=by omega
         have HT:Hid (qF v=true):=lH (by rw[fW.o,List.drop_eq_nil_of_le (by have:=HVN.o;omega)];rfl);have HE:Hid (vs.all qF=(vs.drop (i+1)).all qF):=lH (by rw[HG.o,HD.o,HT.o,Bool.true_and]);(go_wp2_with fail);go_roundw
         case rel=>exact⟨i+1,aR,aM HM1.o,HE.o,HB.o⟩
         case measure=>exact HM2.o
      ·have CZ:¬(i:Int)<(m:Int):=by omega
       have HE:Hid (iX x ms vs=true):=lH (by rw[jR.o,HG.o,List.drop_eq_nil_of_le (by have:=E4.o;omega)];rfl);(go_wp2_with fail);go_ret;exact⟨by rw[HE.o];rfl,HB.o⟩
end

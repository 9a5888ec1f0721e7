import Derived.Test.YthgdchffeigkbaaGreatDoorW09
set_option linter.unusedVariables false
set_option linter.unusedSimpArgs false
namespace Go.Proofs.YthgdchffeigkbaaGreatDoor
set_option maxHeartbeats 4000000
set_option maxRecDepth 100000
variable {A : OA} {B B' C D k n : Nat} {p q : Rat} {w w' : World}
section
open Go.ChangeShapes Go.WideShapes Go.ChangeAt Go.RowKit Go.Joins
section
variable {P:Program}
theorem KI{S:Value->Prop}(w:Wo)(base:Nat)(t ty e:TypeId)(i:TypeInfo)(z:Value)(size bytes:Nat)(ht:P.underlying t=some (.slice e))(hi:P.info? e=some i)(hz:i.zero=some z)(iG:i.size=size)(yY:i.bytes=bytes)(v:Value)(n:Nat)(xs:List Value)(aW:bB S w base e size v n xs)(a:Addr)(m c:Nat)(news:List Value)(hl:news.length=m*size)(jH:∀j u,news[j]?=some u->w.cell? (a.add j)=some u)(h1:∀u∈news,u.oneCell'=true)(uO:n+m<=maxLen)(gX:(n+m)*bytes<=140737488355328)(hm:0<m){v':Value}{w':Wo}(DD:(Builtin.append_ #[t,t] ty #[v,.slice (some a) m c]).run P w=.ok v' w'):∀k,k<w.heap.size->v.ownBlock≠some k->w'.heap[k]?=w.heap[k]?:=by
 subst iG;subst yY;have aL2:n+m<=9223372036854775807:=by simp only[maxLen] at uO;omega
 rcases aW.2 with⟨rfl,rfl⟩ | ⟨g,cap,cur,rfl,YO,hg,hnc,KD,RF,aEx,hS⟩
 ·have hr:=run_append_nil (P:=P) w t ty e i z ht hi hz a m c news hl jH hm (by omega) (by have hb:=gX;rw[Nat.zero_add] at hb;omega)
  rw[DD] at hr;injection hr with _ hr;subst hr;intro k hk _;exact heap_alloc_old w.drew _ hk
 ·by_cases AP:n+m<=cap
  ·have xH:n*i.size+news.length<=cur.size:=by rw[hl,RF,<-Nat.add_mul];exact Nat.mul_le_mul_right _ AP
   have hr:=run_append_room (P:=P) w t ty e i ht hi g n cap cur hg a m c news hl jH (fun u hu=>h1 u hu) AP xH;rw[DD] at hr;injection hr with _ hr;subst hr;intro k hk cG;exact setRow_other w g k _ (fun e=>cG (by rw[e];rfl))
  ·have holds:∀j u,xs[j]?=some u->w.cell? ((⟨g,0,none⟩:Addr).add j)=some u:=aW.own.cells (g:=g) rfl
   have hr:=run_append_grow (P:=P) w t ty e i z ht hi hz ⟨g,0,none⟩ n cap xs aW.1 holds a m c news hl jH (by omega) (by omega) (growslice_fits (by omega) gX);rw[DD] at hr;injection hr with _ hr;subst hr;intro k hk _;exact heap_alloc_old w.drew _ hk
theorem tE{S:Value->Prop}{o:Oper}{a:Act}{w:Wo}{K:Act->World->Prop}{Q:Exit->Act->World->Prop}(s x:Operand)(t:TypeId)(ho:o.op=.call { callee:=.builtin .append,args:=#[s,x],argTypes:=#[t,t] })(base:Nat)(e:TypeId)(i:TypeInfo)(z:Value)(size bytes:Nat)(ht:P.underlying t=some (.slice e))(hi:P.info? e=some i)(hz:i.zero=some z)(iG:i.size=size)(yY:i.bytes=bytes)(JL:z.cells.size=size)(hZ:0<size)(S7:∀u∈z.cells.toList,S u)(v:Value)(n:Nat)(xs:List Value)(hs:a.eval s=v)(aW:bB S w base e size v n xs)(g T:Nat)(lit:Array Value)(hx:a.eval x=.slice (some ⟨g,0,none⟩) 1 1)(hg:aD w g T lit)(hl:lit.size=size)(h1:∀u∈lit.toList,u.oneCell'=true/\S u)(uO:n+1<=maxLen)(gX:(n+1)*bytes<=140737488355328)(cD:base<=w.heap.size)(h:∀v' w',bB S w' base e size v' (n+1) (xs++lit.toList)->dU S base e w w'->(v'.ownBlock=v.ownBlock\/v'.ownBlock=some w.heap.size)->(∀k,k<w.heap.size->v.ownBlock≠some k->w'.heap[k]?=w.heap[k]?)->K (a.put o.dst v') w'):o.wp P a w K Q:=by
 have hn:∀j u,lit.toList[j]?=some u->w.cell? ((⟨g,0,none⟩:Addr).add j)=some u:=fun j u hu=>by
  rw[Addr.add_lit,Nat.zero_add,hg.cell j];simpa using hu
 have hll:lit.toList.length=1*size:=by rw[Array.length_toList,hl,Nat.one_mul]
 obtain⟨v',w',g1,g2,g3,g4⟩:=pC (P:=P) w base t o.type e i z size bytes ht hi hz iG yY JL hZ S7 v n xs aW ⟨g,0,none⟩ 1 1 lit.toList hll hn h1 uO gX cD (by decide);have g5:=KI (P:=P) w base t o.type e i z size bytes ht hi hz iG yY v n xs aW ⟨g,0,none⟩ 1 1 lit.toList hll hn (fun u hu=>(h1 u hu).1) uO gX (by decide) g1;unfold Oper.wp execOp;simp only[ho,resolve,invoke,builtin,Sem.run_bind,Sem.run_pure,Result.andThen_ok,List.map_toArray,List.map_cons,List.map_nil,hs,hx,g1];exact h v' w' g2 g3 g4 g5
theorem nU{S:Value->Prop}{o:Oper}{a:Act}{w:Wo}{K:Act->World->Prop}{Q:Exit->Act->World->Prop}(s x:Operand)(t:TypeId)(ho:o.op=.call { callee:=.builtin .append,args:=#[s,x],argTypes:=#[t,t] })(base:Nat)(e:TypeId)(i:TypeInfo)(z:Value)(size bytes:Nat)(ht:P.underlying t=some (.slice e))(hi:P.info? e=some i)(hz:i.zero=some z)(iG:i.size=size)(yY:i.bytes=bytes)(JL:z.cells.size=size)(hZ:0<size)(S7:∀u∈z.cells.toList,S u)(v:Value)(n:Nat)(xs:List Value)(hs:a.eval s=v)(aW:bB S w base e size v n xs)(g T:Nat)(lit:Array Value)(hx:a.eval x=.slice (some ⟨g,0,none⟩) 1 1)(hg:aD w g T lit)(hl:lit.size=size)(h1:∀u∈lit.toList,u.oneCell'=true/\S u)(uO:n+1<=maxLen)(gX:(n+1)*bytes<=140737488355328)(cD:base<=w.heap.size)(h:∀A m c w',bB S w' base e size (.slice A m c) (n+1) (xs++lit.toList)->dU S base e w w'->((Value.slice A m c).ownBlock=v.ownBlock\/(Value.slice A m c).ownBlock=some w.heap.size)->(∀k,k<w.heap.size->v.ownBlock≠some k->w'.heap[k]?=w.heap[k]?)->K (a.put o.dst (.slice A m c)) w'):o.wp P a w K Q:=
 tE s x t ho base e i z size bytes ht hi hz iG yY JL hZ S7 v n xs hs aW g T lit hx hg hl h1 uO gX cD fun v' w' q1 q2 q3 q4=>by
  obtain⟨A,c,hv,_⟩:=q1.shape;subst hv;exact h A _ c w' q1 q2 q3 q4
end
theorem bB.lt{S:Value->Prop}{base e size:Nat}{v:Value}{xs:List Value}(h:bB S w base e size v n xs)(hk:v.ownBlock=some k):base<=k/\k<w.heap.size:=by
 rcases h.2 with⟨h1,_⟩ | ⟨g,cap,cur,h1,h2,h3,_⟩
 ·rw[h1] at hk;cases hk
 ·rw[h1] at hk
  injection hk with hk;subst hk;exact⟨h2,h3.lt⟩
theorem bB.apart{S:Value->Prop}{base e size:Nat}{v u:Value}{xs:List Value}(h:bB S w base e size u n xs)(ho:∀k,k<w.heap.size->v.ownBlock≠some k->w'.heap[k]?=w.heap[k]?)(cG:∀k,u.ownBlock=some k->v.ownBlock≠some k):bB S w' base e size u n xs:=by
 refine⟨h.1,?_⟩;rcases h.2 with h1 | ⟨g,cap,cur,h1,h2,h3,h4⟩
 ·exact .inl h1
 ·exact .inr ⟨g,cap,cur,h1,h2,(ho g h3.lt (cG g (by rw[h1];rfl))).trans h3,h4⟩
end
section
open Go.ChangeShapes Go.WideShapes Go.ChangeAt Go.RowKit
attribute [local go_sem ↓] aE
attribute [local go_sem] aL aK aO a_
theorem LY{xs ys:List Rat}(hp:xs[k]?=some p)(hq:ys[k]?=some q):rN ((List.zipWith (·*·) xs ys).take (k+1))=rN ((List.zipWith (·*·) xs ys).take k)+p*q:=by
 rw[pN (x:=p*q) (by rw[List.getElem?_zipWith,hp,hq]),CG]
theorem mS{xs ys:List Rat}{Z:Nat}(hn:xs.length=n)(ha:∀q∈xs,bE q<=Z)(hb:∀q∈ys,bE q<=Z)(k:Nat)(hk:k<=n):bE (rN ((List.zipWith (·*·) xs ys).take k))<=n*(2*Z+1)+1:=by
 have h1:((List.zipWith (·*·) xs ys).take k).length<=n:=by rw[jN,List.length_zipWith];omega
 refine b_ (O8 _ _ rfl (2*Z) fun q hq=>?_) ?_
 ·obtain⟨i,hi⟩:=List.getElem?_of_mem (List.mem_of_mem_take hq)
  rw[List.getElem?_zipWith] at hi;cases h1:xs[i]? with
  | none=>rw[h1] at hi;simp at hi
  | some x=>
   cases h2:ys[i]? with
   | none=>rw[h1,h2] at hi;simp at hi
   | some y=>
    rw[h1,h2] at hi;simp at hi;subst hi;have:=eF x y;have:=ha x (bS h1);have:=hb y (bS h2);omega
 ·have:=Nat.mul_le_mul_right (2*Z+1) h1
  omega
theorem vX(h:q=0):q.num.sign=0:=by subst h;rfl
theorem FM(h:q≠0):(q.num.sign != 0)=true:=by
 have:q.num≠0:=fun e=>h (Rat.num_eq_zero.1 e);have:q.num.sign≠0:=fun e=>this (Int.sign_eq_zero_iff_zero.1 e);simpa using this
theorem A_(A:OA)(n c:Nat)(B:OA)(m d:Nat)(xs ys:List Rat)(Z:Nat)(w:Wo)(hA:iE w w.heap.size A n xs)(hB:iE w w.heap.size B m ys)(LP:n<=m)(hn:n<=9223372036854775807)(ha:∀q∈xs,bE q<=Z)(hb:∀q∈ys,bE q<=Z)(hz:n*(2*Z+1)+2*Z+2<=35184372088832):Calls Tryz.prog 109 #[.slice A n c,.slice B m d] w (QP (iM xs ys) w):=by
 obtain⟨HA,HB,B7,oU,HQA⟩:=iS hA hB hA.len hB.len ha;obtain⟨HQB,HZ,iR⟩:=dZ hb hz LP;have eD:Hid (Below w.heap.size w ((w.alloc dR))):=lH (bA);have HR:Hid (aD ((w.alloc dR)) w.heap.size 115 #[.bool false,.slice none 0 0,.bool false,.slice none 0 0]):=lH (aD.new w _ _);clear hA hB ha hb hz LP;go_enter Tryz.func109,Tryz.ntmps109
 go_upto_region 1 with fail
 generalize ((w.alloc dR))=W at *
 go_wp2_with fail
 refine(pV 0 W (by decide) (by decide)).mono ?_;rintro e w1 ⟨bO,v1,rfl,h1⟩;have cI:=cJ eD bO;have BK:=lH (HR.o.bl bO);have H1:=lH h1;clear bO h1 HR
 go_wp2_with fail
 generalize EC:w1.alloc (.cells #[.bool v1.b1,.slice v1.A v1.n v1.c,.bool v1.b2,.slice v1.A2 v1.m v1.d] 115)=wa;have qM:Below w1.heap.size w1 wa:=by rw[<-EC];exact bA
 have mA:Hid (aD wa w1.heap.size 115 #[.bool v1.b1,.slice v1.A v1.n v1.c,.bool v1.b2,.slice v1.A2 v1.m v1.d]):=lH (by rw[<-EC];exact aD.new w1 _ _);have OZ:=cJ cI qM;have tX:=lH (BK.o.bl qM);have HVA:Hid (cU wa wa.heap.size (0:Rat) v1):=lH (by have:=H1.o.up qM;simpa using this);have sX:Hid (w.heap.size<w1.heap.size):=lH BK.o.lt;clear EC qM;generalize w1.heap.size=g at *
 go_loopw [10] (fun v10 wr=>∃(k:Nat)(v:Rv),k<=n/\v10=.int .i64 k/\Below w.heap.size w wr/\aD wr w.heap.size 115 #[.bool false,.slice none 0 0,.bool false,.slice none 0 0]/\aD wr g 115 #[.bool v.b1,.slice v.A v.n v.c,.bool v.b2,.slice v.A2 v.m v.d]/\cU wr wr.heap.size (rN ((List.zipWith (·*·) xs ys).take k)) v) (fun v10 _=>n-(intOf v10).toNat)
 case atStart=>exact⟨0,v1,by omega,rfl,OZ.o,tX.o,mA.o,by rw[List.take_zero];exact HVA.o⟩
 case round=>
  obtain⟨k,v,hk,rfl,hb,hr,hg,hv⟩:=hrel;obtain⟨HK,HR,HG,HV⟩:=h_ hb hr hg hv;clear hb hr hg hv;by_cases aR:k<n
  ·obtain⟨x,hx⟩:∃x,xs[k]?=some x:=eE (by have:=B7.o;omega)
   obtain⟨y,hy⟩:∃y,ys[k]?=some y:=eE (by have:=oU.o;have:=iR.o;omega);obtain⟨ab,ao,AV,lO⟩:=HA.o.form (by omega);subst AV;obtain⟨bb,bo,LT,yZ⟩:=HB.o.form (by have:=iR.o;omega);subst LT;obtain⟨HS,HQX,HQY,F5⟩:=h_ (LY hx hy) (HQA.o x (bS hx)) (HQB.o y (bS hy)) (mS B7.o HQA.o HQB.o k hk);obtain⟨vx,a0,a1,a2,a3,a4⟩:=(HA.o.below HK.o lR).at_ hx;have HX:=lH hx;have HY:=lH hy;have aBi:ab<wr.heap.size:=kA lO HK.o.size;have aI0:bb<wr.heap.size:=kA yZ HK.o.size;have HLX:=lH lO;have HLY:=lH yZ;clear hx hy lO yZ;have f_:(k:Int)<(n:Int):=by omega
   have hkm:(k:Int)<(m:Int):=by have:=iR.o;omega
   have a26:k<m:=by have:=iR.o;omega
   have eY:=lN k;have iD:Hid (n-(k+1)<n-k):=lH (by omega);have HVX:=lH ((cU.more (w:=wr) a4 HK.o.size));clear a4;(go_wp2_with fail);refine(t7 HVX.o).mono ?_;clear a0 a1 a2 a3;rintro e w2 ⟨rfl,bH⟩;have yB:=cJ HK bH;obtain⟨BV,jA,yA,a4q⟩:=h_ (HR.o.bl bH) (HG.o.bl bH) (HV.o.up bH) (HVX.o.up bH);clear bH HR HG;by_cases NO:x=0
   ·have hz:=vX NO
    rw[hz];have HE:Hid (rN ((List.zipWith (·*·) xs ys).take (k+1))=rN ((List.zipWith (·*·) xs ys).take k)):=lH (by rw[HS.o,NO,Rat.zero_mul,Rat.add_zero]);clear hz NO;(go_wp2_with fail);go_roundw
    case rel=>exact⟨k+1,v,aR,aQ eY.o,yB.o,BV.o,jA.o,by rw[HE.o];exact yA.o⟩
    case measure=>exact iD.o
   ·have hz:=FM NO
    generalize x.num.sign=z at hz ⊢;clear NO;obtain⟨vy,a0,a1,a2,a3,a4⟩:=(HB.o.below yB.o lR).at_ HY.o;have aW4:=lH (cU.more (w:=w2) a4 yB.o.size);have aWl:bb<w2.heap.size:=kA HLY.o yB.o.size;clear a4;(go_wp2_with fail);refine(t7 aW4.o).mono ?_;clear a0 a1 a2 a3;rintro e w3 ⟨rfl,dK⟩;have SX:=cJ yB dK;obtain⟨MK,SZ,DR⟩:=dZ (BV.o.bl dK) (jA.o.bl dK) (yA.o.up dK);clear dK;by_cases wK:y=0
    ·have kE:=vX wK
     rw[kE];have HE:Hid (rN ((List.zipWith (·*·) xs ys).take (k+1))=rN ((List.zipWith (·*·) xs ys).take k)):=lH (by rw[HS.o,wK,Rat.mul_zero,Rat.add_zero]);clear kE wK;(go_wp2_with fail);go_roundw
     case rel=>exact⟨k+1,v,aR,aQ eY.o,SX.o,MK.o,SZ.o,by rw[HE.o];exact DR.o⟩
     case measure=>exact iD.o
    ·have kE:=FM wK
     generalize y.num.sign=z2 at kE ⊢;clear wK;(go_upto_region 6 with fail);clear hz kE;obtain⟨vx,a0,a1,a2,a3,a4⟩:=(HA.o.below SX.o lR).at_ HX.o;have aW5:=lH (cU.more (w:=w3) a4 SX.o.size);obtain⟨vy,d0,d1,d2,d3,d4⟩:=(HB.o.below SX.o lR).at_ HY.o;have aW3:=lH (cU.more (w:=w3) d4 SX.o.size);have aWo:ab<w3.heap.size:=kA HLX.o SX.o.size;have aWk:bb<w3.heap.size:=kA HLY.o SX.o.size;clear a4 d4;obtain⟨p0,p1,p2,p3,pl⟩:=SZ.o.b4;have bP:=lH (aI (Below.refl w3.heap.size w3));refine bT (S:=fun w'=>Below w3.heap.size w3 w') 11 _ (by kernel_rfl) (by kernel_rfl) rfl bP.o (fun hHeld=>?_);simp only[m_,List.take_zero];refine cR [0,1,2,3,4,5,6,7,8] ?_;refine bI 9 (fun K hK=>?_);go_simp;refine(J9 (aW5.o.up bP.o) (aW3.o.up bP.o) (by have:=HQX.o;have:=HQY.o;have:=HZ.o;omega)).mono ?_;rintro e w5 ⟨eJ,v5,rfl,h5⟩;have d_:=cJ bP eJ;have H5:=lH h5;clear eJ h5;go_simp;refine iB hK d_.o (fun hHeld=>?_);clear hK K;refine bI 10 (fun K hK=>?_);go_simp;refine(DO (DR.o.up d_.o) H5.o (by have:=eF x y;have:=HQX.o;have:=HQY.o;have:=F5.o;have:=HZ.o;omega)).mono ?_;rintro e w6 ⟨gA,v6,rfl,h6⟩;have gQ:=cJ d_ gA;have H6:=lH h6;clear gA h6;go_simp;refine iB hK gQ.o (fun hHeld=>?_);clear hK K;refine eP ?_;obtain⟨HKF,HRF,lF⟩:=dZ (SX.o.tm gQ.o) (MK.o.bl gQ.o) (SZ.o.bl gQ.o);clear p0 p1 p2 p3 pl a0 a1 a2 a3 d0 d1 d2 d3 aBi aWo aI0 aWl aWk;obtain⟨p0,p1,p2,p3,pf,pl⟩:=lF.o.e4;(go_wp2_with fail);go_roundw
     case rel=>exact⟨k+1,v6,aR,aQ eY.o,dC HKF.o (oO sX.o),aUr HRF.o (Nat.ne_of_lt sX.o),T_ lF.o,by rw[HS.o];exact H6.o.keepq lF.o⟩
     case measure=>exact iD.o
  ·have mL:k=n:=by omega
   subst mL;have f_:¬(k:Int)<(k:Int):=by omega
   have HE:Hid (cU wr wr.heap.size (iM xs ys) v):=lH (by
    have h:=HV.o;rw[nT (by rw[List.length_zipWith,B7.o];omega)] at h;exact h)
   obtain⟨p0,p1,p2,p3,pl⟩:=HG.o.b4;obtain⟨z0,z1,z2,z3,zf,zl⟩:=HR.o.e4;(go_wp2_with fail);clear p0 p1 p2 p3 pl z0 z1 z2 z3 zf zl;have HX:=lH (T_ (v:=v) (x:=BQ) HR.o);have fH:=lH (dC (v:=v) HK.o lR);have HV9:=lH (HE.o.keepq (v:=v) (x:=BQ) HR.o);unfold E1 at fH;generalize (((wr.setCell ⟨_,0,none⟩ _).setCell ⟨_,1,none⟩ _).setCell ⟨_,2,none⟩ _).setCell ⟨_,3,none⟩ _=W9 at *;obtain⟨q0,q1,q2,q3⟩:=HX.o.a4;exact bodyPost_ret (v:=.agg #[.bool v.b1,.slice v.A v.n v.c,.bool v.b2,.slice v.A2 v.m v.d]) (by simp[results,Tryz.results109,go_sem,q0,q1,q2,q3]) rfl ⟨fH.o,v,rfl,HV9.o⟩
structure Mi where
 kind:Int
 name:ByteArray
 txt:ByteArray
 wt:Int
def Mi.cells(x:Mi):List Value:=[.int .i64 x.kind,.string x.name,.string x.txt,.int .i64 x.wt]
def Mi.val(x:Mi):Value:=.agg #[.int .i64 x.kind,.string x.name,.string x.txt,.int .i64 x.wt]
theorem Mi.len(x:Mi):x.cells.length=4:=rfl
def eB(w:Wo)(B:Nat)(A:OA)(n:Nat)(xs:List Mi):Prop:=xs.length=n/\Rd w B 4 A n (xs.flatMap Mi.cells)
theorem eB.below{xs:List Mi}(h:eB w B A n xs)(hb:Below B' w w')(hB:B<=B'):eB w' B A n xs:=⟨h.1,h.2.below hb hB⟩
theorem eB.more{xs:List Mi}(h:eB w B A n xs)(hB:B<=B'):eB w B' A n xs:=⟨h.1,h.2.more hB⟩
theorem eB.at_{b off:Nat}{xs:List Mi}(h:eB w B (some ⟨b,off,none⟩) n xs){i:Nat}{x:Mi}(hx:xs[i]?=some x):w.cell? ⟨b,off+i*4,none⟩=some (.int .i64 x.kind)/\w.cell? ⟨b,off+i*4+1,none⟩=some (.string x.name)/\w.cell? ⟨b,off+i*4+2,none⟩=some (.string x.txt)/\w.cell? ⟨b,off+i*4+3,none⟩=some (.int .i64 x.wt):=by
 have hl:i<xs.length:=(cY.1 hx).1;have h1:=h.1;obtain⟨b',off',e,_,hc⟩:=h.2.2 (by omega);injection e with e;injection e with e1 e2;subst e1;subst e2;have key:∀k,k<4->∀u,x.cells[k]?=some u->w.cell? ⟨b,off+i*4+k,none⟩=some u:=fun k hk u hu=>by
  have:=hc (i*4+k) u (by rw[kG Mi.len xs i x hx k hk];exact hu);rwa[<-Nat.add_assoc] at this
 exact⟨key 0 (by omega) _ rfl,key 1 (by omega) _ rfl,key 2 (by omega) _ rfl,key 3 (by omega) _ rfl⟩
theorem eB.form{xs:List Mi}(h:eB w B A n xs)(h0:0<n):∃b off,A=some ⟨b,off,none⟩/\b<B:=by
 obtain⟨b,off,e,aR,_⟩:=h.2.2 h0;exact⟨b,off,e,aR⟩
theorem Mi.box{p:Nat}{t:TypeId}{x:Mi}(h:aD w p t #[.int .i64 x.kind,.string x.name,.string x.txt,.int .i64 x.wt]):w.cell? ⟨p,0,none⟩=some (.int .i64 x.kind)/\w.cell? ⟨p,1,none⟩=some (.string x.name)/\w.cell? ⟨p,2,none⟩=some (.string x.txt)/\w.cell? ⟨p,3,none⟩=some (.int .i64 x.wt)/\(∀i,w.frozen? ⟨p,i,none⟩=false)/\p<w.heap.size:=
 ⟨h.cell 0,h.cell 1,h.cell 2,h.cell 3,h.frozen,h.lt⟩
structure Vc where
 A:OA
 n:Nat
 c:Nat
 ss:List ByteArray
def Vc.cells(v:Vc):List Value:=[.slice v.A v.n v.c]
theorem Vc.len(v:Vc):v.cells.length=1:=rfl
def xK(w:Wo)(B:Nat)(A:OA)(n:Nat)(vs:List Vc):Prop:=vs.length=n/\Rd w B 1 A n (vs.flatMap Vc.cells)/\∀v∈vs,bD w B v.A v.n v.ss/\v.n<=9223372036854775807
theorem xK.below{xs:List Vc}(h:xK w B A n xs)(hb:Below B' w w')(hB:B<=B'):xK w' B A n xs:=⟨h.1,h.2.1.below hb hB,fun v hv=>⟨(h.2.2 v hv).1.below hb hB,(h.2.2 v hv).2⟩⟩
theorem xK.more{xs:List Vc}(h:xK w B A n xs)(hB:B<=B'):xK w B' A n xs:=⟨h.1,h.2.1.more hB,fun v hv=>⟨(h.2.2 v hv).1.more hB,(h.2.2 v hv).2⟩⟩
theorem xK.form{xs:List Vc}(h:xK w B A n xs)(h0:0<n):∃b off,A=some ⟨b,off,none⟩/\b<B:=by
 obtain⟨b,off,e,aR,_⟩:=h.2.1.2 h0;exact⟨b,off,e,aR⟩
theorem xK.at_{b off:Nat}{xs:List Vc}(h:xK w B (some ⟨b,off,none⟩) n xs){i:Nat}{x:Vc}(hx:xs[i]?=some x):w.cell? ⟨b,off+i,none⟩=some (.slice x.A x.n x.c):=by
 have hl:i<xs.length:=(cY.1 hx).1;have h1:=h.1;obtain⟨b',off',e,_,hc⟩:=h.2.1.2 (by omega);injection e with e;injection e with e1 e2;subst e1;subst e2;have:=kG Vc.len xs i x hx 0 (by decide);rw[Nat.mul_one,Nat.add_zero] at this;exact hc i _ this
theorem nZ(A:OA)(n c:Nat)(a:List ByteArray)(B:OA)(m d:Nat)(b:List ByteArray)(w:Wo)(ha:bD w w.heap.size A n a)(hb:bD w w.heap.size B m b)(hn:n<=9223372036854775807)(hm:m<=9223372036854775807):Calls Tryz.prog 19 #[.slice A n c,.slice B m d] w fun e w'=>e=.returned (.bool (decide (a=b)))/\Below w.heap.size w w':=by
 obtain⟨hla,hlb,HA,HB⟩:=h_ ha.1 hb.1 ha hb;clear ha hb;go_enter Tryz.func19,Tryz.ntmps19
 by_cases LP:n=m
 ·subst LP
  go_wp2_with fail
  go_loopw [5,13] (fun _ i wr=>∃k:Nat,k<=n/\i=.int .i64 k/\a.take k=b.take k/\Below w.heap.size w wr) (fun _ i _=>n-(intOf i).toNat)
  case atStart=>exact⟨0,by omega,rfl,by simp,bR⟩
  case round=>
   obtain⟨k,hk,rfl,lO,VQ⟩:=hrel;have HAB:=lH lO;have HW:=lH VQ;clear lO VQ;by_cases aR:k<n
   ·obtain⟨x,hx⟩:∃x,a[k]?=some x:=eE (by have:=hla.out;omega)
    obtain⟨y,hy⟩:∃y,b[k]?=some y:=eE (by have:=hlb.out;omega);obtain⟨ba,oa,rfl,aFj⟩:=HA.o.form (by omega);obtain⟨bb,ob,rfl,aFg⟩:=HB.o.form (by omega);have YN:=(HA.o.below HW.o lR).at_ hx;have hcb:=(HB.o.below HW.o lR).at_ hy;have hl1:ba<wr.heap.size:=kA aFj HW.o.size;have hl2:bb<wr.heap.size:=kA aFg HW.o.size;have a2Y:(k:Int)<(n:Int):=by omega
    have f_:=lZ k;have eY:=lN k;have iD:Hid (n-(k+1)<n-k):=lH (by omega);by_cases hxy:x=y
    ·subst hxy
     have hp:qX x x=true:=zS.2 rfl;have HT:Hid (a.take (k+1)=b.take (k+1)):=lH (by rw[pN hx,pN hy,HAB.o]);clear hx hy aFj aFg;(go_wp2_with fail)
     go_quiet (fail)
     (go_wp2_with fail);go_roundw
     case rel=>exact⟨k+1,aR,aQ eY.o,HT.o,bF HW.o _⟩
     case measure=>exact iD.o
    ·have hp:qX x y=false:=GQ.2 hxy
     have HT:Hid (decide (a=b)=false):=lH (by
      rw[decide_eq_false_iff_not];intro e;subst e;rw[hx] at hy;injection hy with hy;exact hxy hy)
     clear hx hy aFj aFg hxy;(go_wp2_with fail)
     go_quiet (fail)
     (go_wp2_with fail);go_ret;exact⟨by rw[HT.o];rfl,bF HW.o _⟩
   ·have f_:¬(k:Int)<(n:Int):=by omega
    have HT:Hid (decide (a=b)=true):=lH (by
     rw[decide_eq_true_iff];have h:=HAB.o;rwa[nT (by have:=hla.out;omega),nT (by have:=hlb.out;omega)] at h)
    (go_wp2_with fail);go_ret;exact⟨by rw[HT.o];rfl,HW.o⟩
 ·have hI:((n:Int) != (m:Int))=true:=by simp;omega
  have HT:Hid (decide (a=b)=false):=lH (by
   rw[decide_eq_false_iff_not];intro e;subst e;exact LP (hla.out.symm.trans hlb.out))
  (go_wp2_with fail);go_ret;exact⟨by rw[HT.o];rfl,bR⟩
theorem eB.bm{l:List Mi}(h:eB w w.heap.size A n l)(g:Below w.heap.size w w'):eB w' w'.heap.size A n l:=(h.below g lR).more g.size
theorem xK.bm{l:List Vc}(h:xK w w.heap.size A n l)(g:Below w.heap.size w w'):xK w' w'.heap.size A n l:=(h.below g lR).more g.size
end
section
def Tn(k:Nat)(q:Rat):Prop:=q.num.natAbs<10^k/\q.den<10^k
theorem Tn.mono{m:Nat}(h:Tn k q)(hm:k<=m):Tn m q:=
 ⟨kA h.1 (Nat.pow_le_pow_right (by decide) hm),kA h.2 (Nat.pow_le_pow_right (by decide) hm)⟩
theorem Tn.fits(h:Tn k q)(hk:k<=2000):cH q:=by
 have h2:=h.mono hk;exact⟨US (by decide) h2.1,US (by decide) h2.2⟩
theorem aAb{n:Int}{d:Nat}(hd:d≠0)(h1:n.natAbs<10^k)(h2:d<10^k):Tn k (Rat.divInt n d):=by
 have h3:=(sE n hd).1;have h4:=(nH n hd).2;unfold Tn;rw[h3,h4];exact⟨zT_ (Nat.div_le_self ..) h1,zT_ (Nat.div_le_self ..) h2⟩
def Ot(D B:Nat)(q:Rat):Prop:=∃z:Int,q*((D:Int):Rat)=(z:Rat)/\z.natAbs<=B*D
theorem ND(hp:Ot D B p)(hq:Ot D C q):Ot D (B+C) (p+q):=by
 obtain⟨a,h1,h2⟩:=hp;obtain⟨b,h3,h4⟩:=hq;refine⟨a+b,by rw[Rat.add_mul,h1,h3,Rat.intCast_add],?_⟩;have:=Int.natAbs_add_le a b;rw[Nat.add_mul];omega
theorem UJ(hq:Ot D B q):Ot D B (-q):=by
 obtain⟨a,h1,h2⟩:=hq;exact⟨-a,by rw[Rat.neg_mul,h1,Rat.intCast_neg],by rw[Int.natAbs_neg];exact h2⟩
theorem aLJ{E:Nat}(hp:Ot D B p)(hq:Ot E C q):Ot (D*E) (B*C) (p*q):=by
 obtain⟨a,h1,h2⟩:=hp;obtain⟨b,h3,h4⟩:=hq;refine⟨a*b,?_,?_⟩
 ·rw[Rat.intCast_mul,<-h1,<-h3,Int.natCast_mul,Rat.intCast_mul];grind
 ·rw[Int.natAbs_mul]
  have:=Nat.mul_le_mul h2 h4;have e:B*D*(C*E)=B*C*(D*E):=by grind
  omega
theorem X4(D:Nat):Ot D 0 0:=⟨0,by rw[Rat.zero_mul];rfl,by simp⟩
theorem aLI:Ot D 1 1:=⟨(D:Int),by rw[Rat.one_mul],by simp⟩
theorem pE(h:Ot D B q)(hb:B<=C):Ot D C q:=by
 obtain⟨a,h1,h2⟩:=h;exact⟨a,h1,b_ h2 (Nat.mul_le_mul hb lR)⟩
theorem UK{E:Nat}(h:Ot D B q)(hd:D∣E):Ot E B q:=by
 obtain⟨a,h1,h2⟩:=h;obtain⟨k,rfl⟩:=hd;refine⟨a*k,?_,?_⟩
 ·rw[Rat.intCast_mul,<-h1,Int.natCast_mul,Rat.intCast_mul,Rat.mul_assoc]
 ·rw[Int.natAbs_mul,Int.natAbs_natCast,<-Nat.mul_assoc]
  exact Nat.mul_le_mul h2 lR
theorem UL{n:Int}{d:Nat}(hd:d≠0)(h:n.natAbs<=B*d):Ot d B (Rat.divInt n d):=by
 refine⟨n,?_,h⟩;rw[Rat.divInt_eq_div,Rat.div_mul_cancel];intro e;have:((d:Int):Rat)=((0:Int):Rat):=e;rw[Rat.intCast_inj] at this;omega
theorem aPs(h:Tn k q):Ot q.den (10^k) q:=by
 have h1:=UL (n:=q.num) (d:=q.den) (B:=10^k) q.den_nz (b_ (oO h.1) (Nat.le_mul_of_pos_right _ (Nat.pos_of_ne_zero q.den_nz)));rwa[Rat.num_divInt_den] at h1
end

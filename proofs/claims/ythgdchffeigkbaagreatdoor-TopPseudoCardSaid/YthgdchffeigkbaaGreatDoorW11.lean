import Derived.Test.YthgdchffeigkbaaGreatDoorW09
import Derived.Laws.CopyRow
set_option linter.unusedVariables false
set_option linter.unusedSimpArgs false
namespace Go.Proofs.YthgdchffeigkbaaGreatDoor
set_option maxHeartbeats 8000000
set_option maxRecDepth 100000
variable {A0 : OA} {K g i j k n u : Nat} {free : List Nat} {q : Rat} {v : Rv} {w : World} {x : bK}
section
open Go.ChangeShapes Go.WideShapes Go.ChangeAt Go.RowKit
attribute [local go_sem ↓] aE
attribute [local go_sem] aL aK aO a_
section
variable (P:Program)
theorem xS(w:Wo)(dT sT ty elem:TypeId)(g o dLen dCap:Nat)(a:Addr)(sLen sCap sz:Nat)(cur:Array Value)(t:TypeId)(cs:List Value)(hu:P.underlying dT=some (.slice elem))(hs:(P.info? elem).map (·.size)=some sz)(hg:w.heap[g]?=some (.cells cur t (0,0)))(hn:cs.length=Nat.min sLen dLen*sz)(q_:∀j v,cs[j]?=some v->w.cell? (a.add j)=some v)(xH:o+cs.length<=cur.size)(h1:∀v∈cs,v.oneCell'=true):(Builtin.copy_ #[dT,sT] ty #[.slice (some ⟨g,o,none⟩) dLen dCap,.slice (some a) sLen sCap]).run P w =
     .ok (goInt (Nat.min sLen dLen)) (w.setRow g (cur.toList.take o++cs++cur.toList.drop (o+cs.length)).toArray):=by
 have hl:=run_loadCells_list (P:=P) w a cs q_;have JO:=run_storeCells_at P g o t cs 0 cur w hg (by simpa using xH) h1;cases hq:P.info? elem with
 | none=>simp[hq] at hs
 | some i=>
  have hi:i.size=sz:=by simpa[hq] using hs
  simp[Builtin.copy_,run_underlying hu,Builtin.lenOf,Builtin.firstCells,sizeOf,typeInfo,hq,hi,<-hn,hl,JO]
end
theorem TZ{P:Program}{ops:Array Oper}{o:Oper}{a:Act}{w:Wo}{K:Act->World->Prop}{Q:Exit->Act->World->Prop}{E:Prop}(q:Nat)(hq:o.dst=some q)(yW:o.guard=none)(d s:Operand)(dT sT:TypeId)(ho:o.op=.call { callee:=.builtin .copy,args:=#[d,s],argTypes:=#[dT,sT] })(elem:TypeId)(sz:Nat)(hu:P.underlying dT=some (.slice elem))(hZ:(P.info? elem).map (·.size)=some sz)(ad:Addr)(dLen dCap sLen sCap g off:Nat)(hd:a.eval d=.slice (some ⟨g,off,none⟩) dLen dCap)(hs:a.eval s=.slice (some ad) sLen sCap)(cur:List Value)(t:TypeId)(hg:w.heap[g]?=some (.cells cur.toArray t (0,0)))(cs:List Value)(hn:cs.length=Nat.min sLen dLen*sz)(q_:∀j v,cs[j]?=some v->w.cell? (ad.add j)=some v)(xH:off+cs.length<=cur.length)(h1:∀v∈cs,v.oneCell'=true)(B:Nat)(w0:Wo)(hb:Below B w0 w)(hBg:B<=g)(h:∀w',Hid (w'.heap[g]?=some (.cells (splice cur off cs).toArray t (0,0)))->Below B w0 w'->K (a.put (some q) (goInt (Nat.min sLen dLen))) w'):if Region.wanted o (yielded ops a.tmps)=true then Oper.wp P o a w K Q else E:=by
 have hw:Region.wanted o (yielded ops a.tmps)=true:=by simp[Region.wanted,yW]
 rw[if_pos hw];have NR:=xS P w dT sT o.type elem g off dLen dCap ad sLen sCap sz cur.toArray t cs hu hZ hg hn q_ (by simpa using xH) h1;unfold Oper.wp;simp only[execOp,ho,resolve,invoke,builtin,Sem.run_bind,Sem.run_pure,Result.andThen_ok,List.map_toArray,List.map_cons,List.map_nil,hd,hs,NR];have h2:=h (w.setRow g (cur.take off++cs++cur.drop (off+cs.length)).toArray) (show _=_ by simpa[splice] using setRow_heap w g _ _ t _ hg) (below_setRow hb hBg _);rw[<-hq] at h2;exact h2
theorem MR{P:Program}{w:Wo}{ops:Array Oper}{rest:List Oper}{o:Oper}{a:Act}{Q:Exit->Act->World->Prop}(yW:o.guard=none)(d s:Operand)(dT sT:TypeId)(ho:o.op=.call { callee:=.builtin .copy,args:=#[d,s],argTypes:=#[dT,sT] })(elem:TypeId)(sz:Nat)(hu:P.underlying dT=some (.slice elem))(hZ:(P.info? elem).map (·.size)=some sz)(ad:Addr)(dLen dCap sLen sCap g off:Nat)(hd:a.eval d=.slice (some ⟨g,off,none⟩) dLen dCap)(hs:a.eval s=.slice (some ad) sLen sCap)(cur:List Value)(t:TypeId)(hg:w.heap[g]?=some (.cells cur.toArray t (0,0)))(cs:List Value)(hn:cs.length=Nat.min sLen dLen*sz)(q_:∀j v,cs[j]?=some v->w.cell? (ad.add j)=some v)(xH:off+cs.length<=cur.length)(h1:∀v∈cs,v.oneCell'=true)(B:Nat)(w0:Wo)(hb:Below B w0 w)(hBg:B<=g)(h:∀w',Hid (w'.heap[g]?=some (.cells (splice cur off cs).toArray t (0,0)))->Below B w0 w'->wpList P ops Q rest (a.put o.dst (goInt (Nat.min sLen dLen))) w'):wpList P ops Q (o::rest) a w:=by
 refine wpList_plain yW fun K hK=>?_;have NR:=xS P w dT sT o.type elem g off dLen dCap ad sLen sCap sz cur.toArray t cs hu hZ hg hn q_ (by simpa using xH) h1;unfold Oper.wp execOp;simp only[ho,resolve,invoke,builtin,Sem.run_bind,Sem.run_pure,Result.andThen_ok,List.map_toArray,List.map_cons,List.map_nil,hd,hs,NR];exact hK _ _ (h _ (show _=_ by simpa[splice] using setRow_heap w g _ _ t _ hg) (below_setRow hb hBg _))
theorem PN:(Tryz.prog.info? 115).map (·.size)=some 4:=by kernel_rfl
def aGn(v:Rv)(k:Nat)(cur:List Value):Prop:=∀i,i<k*4->cur[i]?=(fI (List.replicate k v))[i]?
theorem nE(v:Rv)(k i:Nat)(h:i<k*4):(fI (List.replicate k v))[i]?=v.cells[i % 4]?:=by
 have h1:i / 4<k:=by omega
 have:=tI (vs:=List.replicate k v) (i:=i / 4) (v:=v) (by rw[List.getElem?_replicate,if_pos h1]) (i % 4) (Nat.mod_lt _ (by decide));rwa[show i / 4*4+i % 4=i from by omega] at this
theorem D7(vs:List Rv):∀u∈fI vs,u.oneCell'=true:=fun u hu=>(zU vs u hu).1
theorem GU{q:Nat}{cur:List Value}(hl:cur.length=n*4)(hc:aGn v k cur)(hq:k+q<=n):(splice cur (k*4) (fI (List.replicate q v))).length=n*4/\aGn v (k+q) (splice cur (k*4) (fI (List.replicate q v))):=by
 have hlr:(fI (List.replicate q v)).length=q*4:=by rw[dW,qV]
 refine⟨by unfold splice;simp only[g_,jN,J2,hlr];omega,fun i hi=>?_⟩;unfold splice;rw[nE v _ _ hi];by_cases AR:i<k*4
 ·rw[yC (by rw[jN];omega),List.getElem?_take,if_pos AR,hc i AR,nE v _ _ AR]
 ·rw[BP (by rw[jN];omega),jN,Nat.min_eq_left (by omega),yC (by rw[hlr];omega),nE v _ _ (by omega)]
  rw[show(i-k*4) % 4=i % 4 from by omega]
theorem aGn.all{cur:List Value}(hl:cur.length=n*4)(h:aGn v n cur):cur=fI (List.replicate n v):=by
 apply List.ext_getElem?;intro i;by_cases hi:i<n*4
 ·exact h i hi
 ·rw[List.getElem?_eq_none (by omega),List.getElem?_eq_none (by rw[dW,qV];omega)]
theorem aDp(v:Rv)(b:Nat)(n:Nat)(w:Wo)(hv:aD w b 115 #[.bool v.b1,.slice v.A v.n v.c,.bool v.b2,.slice v.A2 v.m v.d])(hn:n<=1000):Calls Tryz.prog 139 #[.slice (some ⟨b,0,none⟩) 1 1,.int .i64 n] w fun e w'=>∃g,e=.returned (.slice (some ⟨g,0,none⟩) n n)/\w.heap.size<=g/\aD w' g 115 (fI (List.replicate n v)).toArray/\Below w.heap.size w w':=by
 have VR:=hv.lt;have s_:∀w:World,(Instr.makeSlice 93 (.int .i64 (n:Int)) (.int .i64 (n:Int))).run Tryz.prog w=.ok (.slice (some ⟨w.heap.size,0,none⟩) n n) (w.alloc (.cells (fI (List.replicate n BQ)).toArray 115)):=fun w=>G7 n (by omega) w;have HHV:=lH hv;clear hv;go_enter Tryz.func139,Tryz.ntmps139
 go_wp2_with fail
 refine(X6 1 n (by omega) (by omega) _).mono ?_;rw[show(1*n / 18446744073709551616:Nat)=0 from by omega,show(1*n % 18446744073709551616:Nat)=n from by omega];rintro e w' ⟨rfl,rfl⟩;have hB0:=jO w (.cells (fI (List.replicate n BQ)).toArray 115);have dO:(w.alloc (.cells (fI (List.replicate n BQ)).toArray 115)).heap[w.heap.size]?=some (.cells (fI (List.replicate n BQ)).toArray 115 (0,0)):=heap_alloc_new w _;obtain⟨eD,aOa,aYr⟩:=dZ hB0 dO (HHV.o.below hB0 VR);have aNy:Hid (∀j u,(fI (List.replicate (Nat.min 1 n) v))[j]?=some u->(w.alloc (.cells (fI (List.replicate n BQ)).toArray 115)).cell? ((⟨b,0,none⟩:Addr).add j)=some u):=lH fun j u hu=>by
  have hj:=(cY.1 hu).1;rw[dW,qV] at hj;have hm:Nat.min 1 n<=1:=Nat.min_le_left _ _;rw[nE v _ _ (by omega)] at hu;rw[Addr.add_lit,Nat.zero_add,aYr.o.cell j];have hj4:j % 4=j:=by omega
  rw[hj4] at hu;simpa[Rv.cells] using hu
 have Q5:(fI (List.replicate n BQ)).length=n*4:=by rw[dW,qV]
 have lB:=lH Q5;have aER:Nat.min 1 n<=n:=Nat.min_le_right _ _;have aEQ:0<n->0<Nat.min 1 n:=fun h=>Nat.lt_min.2 ⟨by decide,h⟩;clear hB0 dO Q5
 go_wp2_with (refine MR rfl (.tmp 31) (.tmp 32) 93 93 rfl 115 4 Tryz.underlying93 PN ⟨b,0,none⟩ n n 1 1 w.heap.size 0 rfl rfl (fI (List.replicate n BQ)) 115 aOa.o (fI (List.replicate (Nat.min 1 n) v)) (by rw[dW,qV]) aNy.o (by rw[dW,qV,lB.o];omega) (D7 _) w.heap.size w eD.o lR ?_)
 intro w2 bH k2;have kO:=GU (v:=v) (k:=0) (q:=Nat.min 1 n) (n:=n) lB.o (fun i hi=>by omega) (by omega);rw[Nat.zero_mul,Nat.zero_add] at kO;generalize splice (fI (List.replicate n BQ)) 0 (fI (List.replicate (Nat.min 1 n) v))=cur0 at bH kO;obtain⟨dN,yB,HK0⟩:=dZ bH.out k2 kO;clear bH k2 kO s_;generalize Nat.min 1 n=k0 at *
 go_wp2_with fail
 go_loopw [8] (fun i wr=>∃k:Nat,k<=n/\i=.int .i64 k/\(0<n->0<k)/\Below w.heap.size w wr/\∃cur:List Value,cur.length=n*4/\aGn v k cur/\Hid (wr.heap[w.heap.size]?=some (.cells cur.toArray 115 (0,0)))) (fun i _=>n-(intOf i).toNat)
 case atStart=>exact⟨k0,aER,rfl,aEQ,yB.o,cur0,HK0.o.1,HK0.o.2,dN⟩
 case round=>
  obtain⟨k,hk,rfl,E7,aFf,cur,wQ,VN,dO⟩:=hrel;obtain⟨HCI,oU,MN⟩:=dZ VN aFf wQ;clear VN aFf wQ;by_cases aR:k<n
  ·have aQB:0<k:=E7 (by omega)
   clear E7;have aGu:Hid (∀j u,(fI (List.replicate (Nat.min k (n-k)) v))[j]?=some u->wr.drew.cell? ((⟨w.heap.size,0,none⟩:Addr).add j)=some u):=lH fun j u hu=>by
    have hj:=(cY.1 hu).1;rw[dW,qV] at hj;have hm:Nat.min k (n-k)<=k:=Nat.min_le_left _ _;rw[nE v _ _ hj,<-nE v k _ (by omega),<-HCI.o j (by omega)] at hu;have h2:=cell_of_row wr w.heap.size j cur.toArray 115 (0,0) dO.out;rw[Addr.add_lit,Nat.zero_add];show wr.cell? _=_;rw[h2];simpa using hu
   have hI1:(k:Int)<=(n:Int):=by omega
   have hI2:=lZ k;have aVk:Nat.min k (n-k)<=n-k:=Nat.min_le_right _ _;have Q6:0<Nat.min k (n-k):=Nat.lt_min.2 ⟨aQB,by omega⟩;have hw1:IntKind.i64.wrap ((k:Int)+((Nat.min k (n-k):Nat):Int))=(k:Int)+((Nat.min k (n-k):Nat):Int):=IntWalk.i64_in _ (by omega);(go_wp2_with fail)
   go_region_law (refine TZ 45 rfl rfl (.tmp 41) (.tmp 44) 93 93 rfl 115 4 Tryz.underlying93 PN ⟨w.heap.size,0,none⟩ (n-k) (n-k) k n w.heap.size (k*4) (by simp[Act.eval,Act.put];omega) (by simp[Act.eval,Act.put]) cur 115 dO.out (fI (List.replicate (Nat.min k (n-k)) v)) (by rw[dW,qV]) aGu.o (by rw[dW,qV,MN.o];omega) (D7 _) w.heap.size w (aI oU.o) lR ?_;intro w3 dK k3)
   have hk3:=GU (v:=v) (k:=k) (q:=Nat.min k (n-k)) (n:=n) MN.o HCI.o (by omega);obtain⟨SX,aN0,aOe⟩:=dZ hk3 k3 dK.out;have aMm:k+Nat.min k (n-k)<=n:=by omega
   clear hk3 k3 dK;generalize splice cur (k*4) (fI (List.replicate (Nat.min k (n-k)) v))=cur3 at *;generalize Nat.min k (n-k)=q at *;(go_wp2_with fail);go_roundw
   case rel=>exact⟨k+q,aMm,by go_num,fun _=>by omega,aN0.o,cur3,SX.o.1,SX.o.2,aOe⟩
   case measure=>simp[intOf];omega
  ·have rR:k=n:=by omega
   subst rR;(go_wp2_with fail);go_ret;refine⟨w.heap.size,rfl,lR,?_,oU.o⟩;have:=dO.out;rw[HCI.o.all MN.o] at this;exact this
def aWH(n:Nat)(w:Wo)(e:Ending)(w':Wo):Prop:=Below w.heap.size w w'/\∃(g:Nat)(v:Rv),e=.returned (.slice (some ⟨g,0,none⟩) n n)/\w.heap.size<=g/\aD w' g 115 (fI (List.replicate n v)).toArray/\cU w' w'.heap.size 0 v
theorem lS(n:Nat)(w:Wo)(hn:n<=1000):Calls Tryz.prog 106 #[.int .i64 n] w (aWH n w):=by
 go_enter Tryz.func106,Tryz.ntmps106
 go_wp2_with fail
 refine(pV 0 w (by decide) (by decide)).mono ?_;rintro e w1 ⟨bO,v1,rfl,h1⟩;have cI:=lH bO;have H1:Hid (cU w1 w1.heap.size 0 v1):=lH (by have:=h1;rwa[show(((0:Int)):Rat)=0 from rfl] at this);clear bO h1
 go_wp2_with fail
 have qM:=jO w1 (.cells #[.bool v1.b1,.slice v1.A v1.n v1.c,.bool v1.b2,.slice v1.A2 v1.m v1.d] 115);have OZ:=cJ cI qM;replace H1:=lH (H1.o.up qM);have HX:=lH (aD.new w1 115 #[.bool v1.b1,.slice v1.A v1.n v1.c,.bool v1.b2,.slice v1.A2 v1.m v1.d]);have HG:Hid (w.heap.size<=(w1.alloc (.cells #[.bool v1.b1,.slice v1.A v1.n v1.c,.bool v1.b2,.slice v1.A2 v1.m v1.d] 115)).heap.size):=lH OZ.o.size;clear qM;refine(aDp v1 w1.heap.size n _ HX.o hn).mono ?_;rintro e w2 ⟨g,rfl,hg,AT,bH⟩;obtain⟨dN,H2,HK⟩:=dZ (OZ.o.trans (bH.mono HG.o)) (H1.o.up bH) AT;have hgw:w.heap.size<=g:=b_ HG.o hg;clear bH AT hg
 go_wp2_with fail
 go_ret;exact⟨dN.o,g,v1,rfl,hgw,HK.o,H2.o⟩
theorem aJb{q:List Rat}(hq:q.length=n):(q++List.replicate n (0:Rat)).set (n+k) 1=q++pY n k:=by
 unfold pY;rw[List.set_append_right _ _ (by omega),hq];congr 2
 omega
theorem aHE:∀x∈pY n i,bE x+1<=3:=fun x hx=>by
 have:x=0\/x=1:=by
  unfold pY at hx;rcases List.mem_or_eq_of_mem_set hx with h | h
  ·exact .inl (List.mem_replicate.1 h).2
  ·exact .inr h
 rcases this with h | h<;>rw[h]<;>decide+kernel
theorem Y0{M:List (List Rat)}{b:Nat}(h:Bd b M)(hb:3<=b):Bd b (gY M):=fun a ha x hx=>by
 obtain⟨i,hi⟩:=List.mem_iff_getElem?.1 ha;obtain⟨row,hr⟩:∃row,M[i]?=some row:=eE (by have:=(cY.1 hi).1;rwa[iK] at this);rw[wR hr] at hi;injection hi with hi;rw[<-hi] at hx;rcases List.mem_append.1 hx with hx | hx
 ·exact h row (bS hr) x hx
 ·exact b_ (aHE x hx) hb
section
variable {w w':Wo} {base g:Nat} {hs:List Mh} {L:List (List Rat)}
theorem jK.mat(o:jK w base g hs L):jL base g w w (.slice none 0 0) [] hs L:=⟨o,dI _ _ _ _ _,bR⟩
end
structure FI (w:Wo) (base g n k:Nat) (hs:List Hd) (L:List (List Rat)):Prop where
 top:aD w g 93 (hs.map Hd.val).toArray
 len:hs.length=L.length
 gb:base<=g
 row:∀(i:Nat)(h:Hd)(q:List Rat),hs[i]?=some h->L[i]?=some q->iE w w.heap.size h.A h.n (if i<k then q.drop n else q)/\h.n<=h.c/\h.c<=maxLen/\(0<h.n->∃b off,h.A=some ⟨b,off,none⟩/\b≠g)
section
variable {w w':Wo} {base g n k:Nat} {hs:List Hd} {L:List (List Rat)}
theorem jK.cut{ms:List Mh}(o:jK w base g ms L):FI w base g n 0 (ms.map fun h=>⟨h.A,h.vs.length,h.c⟩) L:=by
 refine⟨?_,by rw[iT,o.len],o.gb,fun i h q hh hq=>?_⟩
 ·rw[List.map_map];exact o.top
 ·rw[lT] at hh
  obtain⟨m,hm,rfl⟩:=Option.map_eq_some_iff.1 hh;have r:=o.row i m q hm hq;refine⟨?_,r.cap,r.cm,fun h0=>?_⟩
  ·rw[if_neg (by omega)]
   have:=r.rd;rwa[<-r.len] at this
  ·obtain⟨h1,h2,h3,_⟩:=r.lies (by rw[<-r.len];exact h0)
   exact⟨m.g,0,h1,h3⟩
theorem FI.up(o:FI w base g n k hs L)(hb:Below w.heap.size w w'):FI w' base g n k hs L:=
 ⟨o.top.bl hb,o.len,o.gb,fun i h q hh hq=>by
  obtain⟨h1,h2,h3,h4⟩:=o.row i h q hh hq;exact⟨(h1.below hb lR).more hb.size,h2,h3,h4⟩⟩
theorem FI.get(o:FI w base g n k hs L){q:List Rat}(hq:L[i]?=some q):∃h:Hd,hs[i]?=some h/\w.cell? ⟨g,i,none⟩=some (.slice h.A h.n h.c):=by
 obtain⟨h,hh⟩:∃h,hs[i]?=some h:=eE (by rw[o.len];exact(cY.1 hq).1);refine⟨h,hh,?_⟩;rw[o.top.cell,List.getElem?_toArray,lT,hh];rfl
theorem iE.drop{B m b off:Nat}{q:List Rat}(h:iE w B (some ⟨b,off,none⟩) m q)(hn:n<=m):iE w B (some ⟨b,off+n*4,none⟩) (m-n) (q.drop n):=by
 obtain⟨vs,h1,h2,h3,h4⟩:=h;refine⟨vs.drop n,by rw[J2,h1],by rw[J2,h2],⟨by rw[dW,J2,h1],fun h0=>?_⟩,fun i x v hx hv=>?_⟩
 ·obtain⟨b',off',e,aR,hc⟩:=h3.2 (by omega)
  injection e with e;injection e with e1 e2;subst e1;subst e2;refine⟨b,off+n*4,rfl,aR,fun j u hu=>?_⟩;have hd:fI vs=fI (vs.take n)++fI (vs.drop n):=by
   unfold fI;rw[<-List.flatMap_append,List.take_append_drop]
  have hu2:(fI vs)[n*4+j]?=some u:=by
   rw[hd,BP (by rw[dW,jN,h1];omega),dW,jN,h1,show n*4+j-min n m*4=j from by omega];exact hu
  have:=hc _ u hu2;rwa[<-Nat.add_assoc] at this
 ·rw[List.getElem?_drop] at hx hv
  exact h4 _ _ _ hx hv
theorem FI.step(o:FI w base g n k hs L){h h2:Hd}{q:List Rat}(hh:hs[k]?=some h)(hq:L[k]?=some q)(hr:iE w w.heap.size h2.A h2.n (q.drop n))(h1:h2.n<=h2.c)(h3:h2.c<=maxLen)(h4:0<h2.n->∃b off,h2.A=some ⟨b,off,none⟩/\b≠g):FI (w.setCell ⟨g,k,none⟩ (.slice h2.A h2.n h2.c)) base g n (k+1) (hs.set k h2) L:=by
 have hkl:=(cY.1 hh).1;have oP:∀{A:OA}{m:Nat}{p:List Rat},iE w w.heap.size A m p->(0<m->∃b off,A=some ⟨b,off,none⟩/\b≠g)->iE (w.setCell ⟨g,k,none⟩ (.slice h2.A h2.n h2.c)) (w.setCell ⟨g,k,none⟩ (.slice h2.A h2.n h2.c)).heap.size A m p:=fun{A m p} H hA=>by
  obtain⟨vs,a1,a2,a3,a4⟩:=H;refine⟨vs,a1,a2,⟨a3.1,fun hm=>?_⟩,fun i x v hx hv=>?_⟩
  ·obtain⟨b,off,e,aR,hc⟩:=a3.2 hm
   obtain⟨b',off',e',cG⟩:=hA hm;rw[e] at e';injection e' with e';injection e' with e1 e2;subst e1;refine⟨b,off,e,by simpa[World.setCell] using aR,fun j u hu=>?_⟩;rw[World.cell?_setCell_other _ _ _ _ (fun e=>cG (by injection e with e;exact e.symm))];exact hc j u hu
  ·have h0:cQ w w.heap.size x v.b1 v.A v.n v.c v.b2 v.A2 v.m v.d:=a4 i x v hx hv
   refine cQ.keep h0 (v:=h.val) ?_ (fun a b e=>by simp[Hd.val] at e) _;rw[o.top.cell,List.getElem?_toArray,lT,hh];rfl
 refine⟨?_,by rw[kV,o.len],o.gb,fun i z p hz hp=>?_⟩
 ·have:=o.top.set_ k (.slice h2.A h2.n h2.c)
  rw[List.map_set];simpa[Hd.val] using this
 ·rw[List.getElem?_set] at hz
  by_cases AR:k=i
  ·subst AR
   rw[if_pos rfl,if_pos hkl] at hz;injection hz with hz;subst hz;rw[hq] at hp;injection hp with hp;subst hp;refine⟨?_,h1,h3,h4⟩;rw[if_pos (Nat.lt_succ_self _)];exact oP hr h4
  ·rw[if_neg AR] at hz
   obtain⟨a1,a2,a3,a4⟩:=o.row i z p hz hp;refine⟨?_,a2,a3,a4⟩;have e:(if i<k+1 then p.drop n else p)=if i<k then p.drop n else p:=by
    by_cases aR:i<k
    ·rw[if_pos aR,if_pos (by omega)]
    ·rw[if_neg aR,if_neg (by omega)]
   rw[e];exact oP a1 a4
theorem FI.rd(o:FI w base g n L.length hs L):jP w w.heap.size (some ⟨g,0,none⟩) L.length (L.map (List.drop n)):=by
 refine⟨hs,o.len,iT _,⟨by simp[o.len],fun _=>⟨g,0,rfl,o.top.lt,fun j u hu=>?_⟩⟩,fun i h q hh hq=>?_⟩
 ·rw[Nat.zero_add,o.top.cell j,List.getElem?_toArray]
  exact hu
 ·rw[lT] at hq
  obtain⟨p,hp,rfl⟩:=Option.map_eq_some_iff.1 hq;obtain⟨a1,a2,a3,_⟩:=o.row i h p hh hp;rw[if_pos (cY.1 hp).1] at a1;exact⟨a1,a2,a3⟩
end
def aNj(M:List (List Rat))(w:Wo)(e:Ending)(w':Wo):Prop:=Below w.heap.size w w'/\(((l8 (gY M) M.length).2.length<M.length/\e=.returned (.tuple #[.slice none 0 0,.bool false]))\/
 (¬(l8 (gY M) M.length).2.length<M.length/\∃g,e=.returned (.tuple #[.slice (some ⟨g,0,none⟩) M.length M.length,.bool true])/\w.heap.size<=g/\jP w' w'.heap.size (some ⟨g,0,none⟩) M.length ((l8 (gY M) M.length).1.map (List.drop M.length))))
theorem aCL(hb:aD w g 115 (fI (List.replicate n v)).toArray):Rd w w.heap.size 4 (some ⟨g,0,none⟩) n (fI (List.replicate n v)):=
 ⟨by rw[dW,qV],fun _=>⟨g,0,rfl,hb.lt,fun j u hu=>by rw[Nat.zero_add,hb.cell j];simpa using hu⟩⟩
theorem aDq(h:cU w w.heap.size q v):kK w (List.replicate n v) (List.replicate n q):=fun i p x hp hx=>by
 rw[List.getElem?_replicate] at hp hx;split at hp
 ·rename_i hi
  rw[if_pos hi] at hx;injection hp with hp;injection hx with hx;subst hp;subst hx;exact h
 ·cases hp
theorem kK.app{vs us:List Rv}{ps qs:List Rat}(h:kK w vs ps)(h2:kK w us qs)(hl:vs.length=ps.length):kK w (vs++us) (ps++qs):=fun i q v hq hv=>by
 by_cases hi:i<ps.length
 ·rw[yC hi] at hq
  rw[yC (by omega)] at hv;exact h i q v hq hv
 ·rw[BP (by omega)] at hq
  rw[BP (by omega),hl] at hv;exact h2 _ q v hq hv
theorem aHY(a b:List Rv):fI (a++b)=fI a++fI b:=by unfold fI;rw[List.flatMap_append]
theorem LI(A:OA)(n c b:Nat)(M:List (List Rat))(w:Wo)(hR:jP w w.heap.size A n M)(hn:n<=1000)(hw:∀a∈M,a.length=n)(FA:Bd b M)(dK:3<=b)(hZ:4^n*b<=4000000000000):Calls Tryz.prog 121 #[.slice A n c] w (aNj M w):=by
 obtain⟨HR,HL,HWD⟩:=dZ hR hR.len hw;have HEW:Hid (∀a∈gY M,a.length=n+n):=lH (by have h:=hR.len;have:=vM (M:=M) (by rw[h];exact hw);rwa[h] at this);have HEB:=lH (Y0 FA dK);have eC:=lH hZ;obtain⟨i0,iW,qY,kF,kE⟩:=pP;obtain⟨ES,wX,KN,KM⟩:=h_ iW qY kF kE;clear hR hw iW qY kF kE FA dK hZ;have s_:∀w:World,(Instr.makeSlice 92 (.int .i64 (n:Int)) (.int .i64 (n:Int))).run Tryz.prog w=.ok (.slice (some ⟨w.heap.size,0,none⟩) n n) (w.alloc (.cells (fF n) 93)):=fun w=>wJ n (by omega) w;have HK:=lH ((Below.refl w.heap.size w).alloc lR (.cells (fF n) 93));have HG:=lH (aD.new w 93 (fF n));go_enter Tryz.func121,Tryz.ntmps121
 go_wp2_with fail
 clear s_;generalize w.alloc (.cells (fF n) 93)=W at *;have HO:=lH (wF HG.o lR);generalize hg:w.heap.size=g at *;have mA:=lH hg;clear hg HG
 go_loopw [16] (fun v16 wr=>∃(k:Nat)(hs:List Mh),k<=n/\v16=.int .i64 k/\Below g w wr/\jK wr g g hs ((gY M).take k++List.replicate (n-k) [])) (fun v16 _=>n-(intOf v16).toNat)
 case atStart=>exact⟨0,_,by omega,rfl,HK.o,by rw[List.take_zero,List.nil_append,Nat.sub_zero];exact HO.o⟩
 case round=>
  clear HK HO;obtain⟨k,hs,hk,rfl,hb,ho⟩:=hrel;have HK:=lH hb;have HO:=lH ho;clear hb ho;by_cases aR:k<n
  ·obtain⟨q,hq⟩:∃q,M[k]?=some q:=eE (by have:=HL.o;omega)
   obtain⟨b0,o,hA,hb⟩:=(HR.o.below HK.o (by have:=mA.o;omega)).form (by omega);subst hA;obtain⟨h,hc,hrq,hh1,hh2⟩:=(HR.o.below HK.o (by have:=mA.o;omega)).at_ hq;have sX:Hid (g<wr.heap.size):=lH HO.o.top.lt;have HRQ:=lH (hrq.more (B':=wr.heap.size) (by have:=mA.o;have:=sX.o;omega));have lP:Hid (q.length=n):=lH (HWD.o q (bS hq));have HXQ:=lH (wR hq);rw[HL.o] at HXQ;have HF:Hid (((gY M).take k++List.replicate (n-k) []).set k (q++pY n k)=(gY M).take (k+1)++List.replicate (n-(k+1)) []):=lH (IR (by rw[iK,HL.o]) HXQ.o);have f_:(k:Int)<(n:Int):=by omega
   have eY:=lN k;have iD:Hid (n-(k+1)<n-k):=lH (by omega);have qL:b0<wr.heap.size:=by have:=HK.o.size;have:=mA.o;omega
   obtain⟨vs,nA,kU,qI,tL⟩:=K5 HRQ.o;obtain⟨hA0,oQ,IJ⟩:=h;simp only at hc nA kU qI tL hh1 hh2;have aVf:oQ=n:=by have:=lP.o;omega
   subst aVf;obtain⟨pL,DR,ZP⟩:=dZ nA qI tL;clear nA kU qI tL hq hrq hb HR
   go_wp2_with (at_builtin;refine nV (S:=o9) rfl (.const (.slice none 0 0)) (.tmp 24) _ rfl g 115 i0 _ 4 64 Tryz.underlying93 ES.o wX.o KN.o KM.o rfl (by omega) uS (.slice none 0 0) 0 [] rfl (dI _ _ _ _ _) hA0 oQ IJ (fI vs) rfl DR.o (zU vs) ?k1 ?k2 ?k3 ?_)
   case k1=>simp only[maxLen];omega
   case k2=>omega
   case k3=>have:=sX.o;omega
   intro v' w6 aW hkeep gA aA_ dO;have gQ:=lH gA;have aYc:=lH aA_;clear aW hkeep gA aA_ dO hc;(go_wp2_with fail);refine(lS oQ w6 hn).mono ?_;rintro e w7 ⟨iA,gz,vz,rfl,hgz,oY,hvz⟩;obtain⟨lG,aYb,HZR,HVZ⟩:=h_ iA (aYc.o.keep iA) (aCL oY) hvz;have HV7:Hid (kK w7 vs q):=lH (kK.up (w:=w6) (kK.up (w:=wr) ZP.o gQ.o) iA);have ON:Hid (wr.heap.size<=w7.heap.size):=lH (b_ gQ.o.size iA.size);clear iA oY hvz hgz aYc
   go_wp2_with (at_builtin;refine nV (S:=o9) rfl (.tmp 25) (.tmp 27) _ rfl wr.heap.size 115 i0 _ 4 64 Tryz.underlying93 ES.o wX.o KN.o KM.o rfl (by omega) uS v' oQ (fI vs) rfl aYb.o (some ⟨gz,0,none⟩) oQ oQ (fI (List.replicate oQ vz)) rfl HZR.o (zU _) ?k1 ?k2 ?k3 ?_)
   case k1=>simp only[maxLen];omega
   case k2=>omega
   case k3=>exact ON.o
   intro v2 w8 hown8 hkeep8 hnil8 hblk8;have dS:Hid (Below wr.heap.size wr w8):=lH (gQ.o.trans ((lG.o.mono gQ.o.size).trans hkeep8.low));have HOQ:Hid (dD w8 wr.heap.size v2 (vs++List.replicate oQ vz) (q++List.replicate oQ 0)):=lH (by
    refine⟨?_,?_,?_⟩
    ·rw[g_,qV,pL.o,aHY];exact hown8
    ·rw[g_,g_,qV,qV,pL.o,lP.o]
    ·refine kK.app (fun i p x hp hx=>?_) (aDq (cU.keeps HVZ.o hkeep8)) (by rw[pL.o,lP.o])
     exact cU.keeps (HV7.o i p x hp hx) hkeep8)
   obtain⟨h2,hv,hvs,gN⟩:=QH (w':=w8) (g:=g) HOQ.o sX.o;subst hv;have tC:=lH (gN.mono (base':=g) (oO sX.o));have gT:=lH (HK.o.trans (dS.o.mono (oO sX.o)));have tD:=lH (HO.o.up dS.o);have ZW:Hid (∀j (h':Mh),j≠k->hs[j]?=some h'->0<h'.vs.length->0<h2.vs.length->h'.g≠h2.g):=lH fun j h' _ hh l1 l2=>by
    have h3:=HO.o.lt hh l1;have h4:=(gN.lies (by rw[<-gN.len];exact l2)).2.1;omega
   clear hown8 hkeep8 hnil8 hblk8 hvs gN HK HO HOQ HV7 HVZ HZR aYb gQ lG DR ZP ON;have aNJ:(q++List.replicate oQ (0:Rat)).length=oQ+oQ:=by rw[g_,qV,lP.o]
   have aJK:=lH aNJ;have gl:=tD.o.top.lt;have gf:=tD.o.top.frozen;have JE:Hid (k<(((gY M).take k++List.replicate (oQ-k) []):List (List Rat)).length):=lH (by simp;have:=HL.o;have:=iK M;omega);obtain⟨gv,gc⟩:∃gv,w8.cell? ⟨g,k,none⟩=some gv:=by
    rw[tD.o.top.cell];exact⟨_,Array.getElem?_eq_getElem (by rw[List.size_toArray,iT,tD.o.len];exact JE.o)⟩
   have BY:=lH (tD.o.setRow JE.o tC.o ZW.o);have fH:Hid (Below g w (w8.setCell ⟨g,k,none⟩ (.slice h2.A (q++List.replicate oQ (0:Rat)).length h2.c))):=lH (gT.o.setCell lR _);rw[aNJ] at BY fH ⊢;clear aNJ;(go_upto_region 7 with fail);clear gl gf gc;generalize w8.setCell ⟨g,k,none⟩ (.slice h2.A (oQ+oQ) h2.c)=w9 at *;have HQ9:Hid ((((gY M).take k++List.replicate (oQ-k) []).set k (q++List.replicate oQ 0))[k]?=some (q++List.replicate oQ 0)):=lH (by rw[List.getElem?_set,if_pos rfl,if_pos JE.o]);have iZ:Hid ((((gY M).take k++List.replicate (oQ-k) []).set k (q++List.replicate oQ 0)).set k ((q++List.replicate oQ 0).set (oQ+k) 1)=(gY M).take (k+1)++List.replicate (oQ-(k+1)) []):=lH (by rw[List.set_set,aJb lP.o,HF.o]);generalize (((gY M).take k++List.replicate (oQ-k) []).set k (q++List.replicate oQ 0))=L9 at *;generalize q++List.replicate oQ (0:Rat)=q9 at *;generalize hs.set k h2=VE at *;obtain⟨gg,cc,vs9,x9,hh9,c,hx9,c0,c1,c2,c3,LL,l1,f1,cG⟩:=BY.o.mat.elem (i:=k) (j:=oQ+k) HQ9.o (by rw[aJK.o];omega);rw[aJK.o] at c;have HH:=lH hh9;have HX:=lH hx9;have gl:=BY.o.top.lt;have bP:=lH (aI (Below.refl w9.heap.size w9));clear hh9 hx9 LL HF HXQ tC ZW JE gT tD pL dS;obtain⟨m,hm⟩:∃m:Nat,m=oQ+k:=⟨_,rfl⟩;rw[<-hm] at c0 c1 c2 c3 HX iZ;have HM:=lH hm;have hw1:IntKind.i64.wrap (m:Int)=(m:Int):=IntWalk.i64_in _ (by omega);have hw2:(oQ:Int)+(k:Int)=(m:Int):=by omega
   have wM:m<oQ+oQ:=by omega
   have hm3:(m:Int)<((oQ+oQ:Nat):Int):=by omega
   have kO:=lZ k;have VJ:=lZ m;have hmn:=jM m;generalize oQ+oQ=n2 at *;clear hm;refine kQ 9 (fun hHeld=>?_);simp only[m_,List.take_zero];refine cR [0,1,2,3,4,5,6] ?_;refine bI 7 (fun K hK=>?_);go_simp;refine(pV 1 w9.drew (by decide) (by decide)).mono ?_;rintro e w10 ⟨NV,v10,rfl,h10⟩;have aGR:Hid (Below w9.heap.size w9 w10):=lH (bP.o.trans NV);have H10:=lH h10;clear NV h10;go_simp;refine iB hK aGR.o (fun hHeld=>?_);clear hK K;refine cR [8] ?_;refine eP ?_;clear hHeld;have aNT:=lH (BY.o.up aGR.o);have zK:=lH (fH.o.trans (aGR.o.mono (by have:=fH.o.size;have:=mA.o;omega)));clear c c0 c1 c2 c3 l1 f1 cG gl BY fH;obtain⟨c0,c1,c2,c3,l1,f1⟩:=aNT.o.mat.elem2 HH.o HQ9.o HX.o;(go_wp2_with fail);go_roundw
   case rel=>exact⟨k+1,_,aR,aQ eY.o,iQ zK.o (by
       obtain⟨h1,h2,-⟩:=(aNT.o.row k _ q9 HH.o HQ9.o).lies (by rw[aJK.o];omega);exact h2),by
       rw[<-iZ.o];exact aNT.o.put HH.o HQ9.o (by rw[aJK.o];exact wM) H10.o⟩
   case measure=>exact iD.o
  ·have mL:k=n:=by omega
   subst mL;have f_:¬(k:Int)<(k:Int):=by omega
   have HOX:Hid (jK wr g g hs (gY M)):=lH (by
    have h:=HO.o;rw[Nat.sub_self,List.replicate_zero,List.append_nil,nT (by rw[iK,HL.o];exact lR)] at h;exact h)
   have HRX:Hid (jP wr wr.heap.size (some ⟨g,0,none⟩) k (gY M)):=lH (by have h:=HOX.o.rd;rwa[iK,HL.o] at h);have DS:=lH (PW (some ⟨g,0,none⟩) k k k (k+k) b (gY M) wr HRX.o (by omega) HEW.o (by omega) (by omega) HEB.o eC.o);have bM:=lH (z7 (M:=gY M) (N:=k+k) (cols:=k) HEW.o (by omega));clear HRX HO HEB eC HEW;(go_wp2_with fail);refine DS.o.mono ?_;rintro e w2 ⟨bH,g2,yS,v,rfl,ho2,hp⟩;obtain⟨pA,pc,hv,-,-⟩:=hp.shape;subst hv;have dN:=lH (HK.o.trans (bH.mono (by have:=HK.o.size;have:=mA.o;omega)));have TJ:=lH (ho2.cut (n:=k));have HGG:Hid (g<=wr.heap.size):=lH (by have:=HK.o.size;have:=mA.o;omega);rw[show(gY M).length=k from by rw[iK,HL.o]];have SY:Hid (∀(e:Ending)(w':Wo),Below w.heap.size w w'->(((l8 (gY M) k).2.length<k/\e=.returned (.tuple #[.slice none 0 0,.bool false]))\/(¬(l8 (gY M) k).2.length<k/\∃g,e=.returned (.tuple #[.slice (some ⟨g,0,none⟩) k k,.bool true])/\w.heap.size<=g/\jP w' w'.heap.size (some ⟨g,0,none⟩) k ((l8 (gY M) k).1.map (List.drop k))))->aNj M w e w'):=lH fun e w' h1 h2=>by
    unfold aNj;rw[HL.o];exact⟨h1,h2⟩
   have uF:Hid ((l8 (gY M) k).1.length=k):=lH (by rw[bM.o.len,iK,HL.o]);have HLW:=lH bM.o.wid;clear bH ho2 hp DS bM HOX HK;generalize (l8 (gY M) k).1=L at *;generalize (l8 (gY M) k).2.length=pl at *;by_cases xW:pl<k
   ·have aU6:(pl:Int)<(k:Int):=by omega
    (go_wp2_with fail);go_ret2;exact SY.o _ _ (by rw[mA.o];exact dN.o) (.inl ⟨xW,rfl⟩)
   ·have aU6:¬(pl:Int)<(k:Int):=by omega
    (go_wp2_with fail);generalize yS.map (fun h=>(⟨h.A,h.vs.length,h.c⟩:Hd))=hs3 at *
    go_loopw [52] (fun v52 wq=>∃(i:Nat)(hs:List Hd),i<=k/\v52=.int .i64 i/\Below g w wq/\FI wq wr.heap.size g2 k i hs L) (fun v52 _=>k-(intOf v52).toNat)
    case atStart=>exact⟨0,hs3,by omega,rfl,dN.o,TJ.o⟩
    case round=>
     clear dN TJ;obtain⟨i,YG,hi,rfl,hb,hc⟩:=hrel;have HB:=lH hb;have HC:=lH hc;clear hb hc;by_cases aR:i<k
     ·obtain⟨q,hq⟩:∃q,L[i]?=some q:=eE (by have:=uF.o;omega)
      obtain⟨h,hh,c⟩:=HC.o.get hq;obtain⟨r1,r2,r3,r4⟩:=HC.o.row i h q hh hq;rw[if_neg (by omega)] at r1;have hhn:h.n=k+k:=by rw[<-r1.len];exact HLW.o q (bS hq)
      obtain⟨hA,Q4,VP⟩:=h;simp only at c r1 r2 r3 r4 hhn;subst hhn;obtain⟨b2,o2,KF,Q3⟩:=r4 (by omega);subst KF;have BK:=lH (r1.drop (n:=k) (by omega));have HHH:=lH hh;have HQQ:=lH hq;have gl:=HC.o.top.lt;have gf:=HC.o.top.frozen;have BS:(i:Int)<(k:Int):=by omega
      have eY:=lN i;have iD:Hid (k-(i+1)<k-i):=lH (by omega);clear r1 r4 hh hq;have kO:0<k:=by omega
      have hkc:¬VP=k:=by omega
      have hki:(k:Int)<=((k+k:Nat):Int):=by omega
      have hkz:=lZ k;have mP:(k:Int)<=(VP:Int):=by omega
      have a3x:((k+k:Nat):Int)<=(VP:Int):=by omega
      have hkt:=jM k;rw[show k+k-k=k from by omega] at BK;have BV:Hid (k<=VP-k/\VP-k<=maxLen):=lH (by omega);have JP:k+k-k=k:=by omega
      (go_wp2_with fail);go_roundw
      case rel=>exact⟨i+1,_,aR,aQ eY.o,HB.o.setCell (b_ HGG.o HC.o.gb) _,HC.o.step (h2:=⟨some ⟨b2,o2+k*4,none⟩,k,VP-k⟩) HHH.o HQQ.o BK.o BV.o.1 BV.o.2 (fun _=>⟨_,_,rfl,Q3⟩)⟩
      case measure=>exact iD.o
     ·have EH:i=k:=by omega
      subst EH;have BS:¬(i:Int)<(i:Int):=by omega
      (go_wp2_with fail);go_ret2;exact SY.o _ _ (by rw[mA.o];exact HB.o) (.inr ⟨xW,g2,rfl,by rw[mA.o];exact b_ HGG.o HC.o.gb,by have h:=HC.o;rw[<-uF.o] at h;have h2:=h.rd;rwa[uF.o] at h2⟩)
def dB(b:Br):Rat:=Rat.divInt 1000000 (b.x*b.tap)
def jD(b:Br):Rat:=dB b*Rat.divInt (-b.shift) 1000
def gL(x:bK):List Nat:=(DA x).map Int.toNat
def aA(x:bK):List Nat:=kR (fK (gL x)) (aH x)
def hO(x:bK):List Nat:=(KH x).map Prod.fst
def BR(x:bK):List Nat:=(KH x).map Prod.snd
def mB(x:bK):List Rat:=x.brs.map dB
def mC(x:bK):List Rat:=x.brs.map jD
def eX(A:List (List Rat))(i j:Nat)(q:Rat):List (List Rat):=A.set i ((A.getD i []).set j (vf (A.getD i []) j+q))
def CS(free:List Nat)(u:Nat):Option Nat:=free.findIdx? (· == u)
def gO(free:List Nat)(A:List (List Rat))(b:Rat)(u v:Nat):List (List Rat):=
 if u=v then A else
  match CS free u,CS free v with
  | none,none=>A
  | some i,none=>eX A i i b
  | none,some j=>eX A j j b
  | some i,some j=>eX (eX (eX (eX A i i b) j j b) i j (-b)) j i (-b)
def xY(free:List Nat):List Rat->List Nat->List Nat->List (List Rat)->List (List Rat)
 | b::bs,u::us,v::vs,A=>xY free bs us vs (gO free A b u v)
 | _,_,_,A=>A
def oH(n:Nat):List (List Rat):=List.replicate n (List.replicate n 0)
def qT(x:bK):List (List Rat):=xY (aA x) (mB x) (hO x) (BR x) (oH (aA x).length)
def yP(x:bK):List (List Rat):=(l8 (gY (qT x)) (aA x).length).1.map (List.drop (aA x).length)
def aAU(x:bK):Prop:=¬(l8 (gY (qT x)) (aA x).length).2.length<(aA x).length
theorem MJ{A:List (List Rat)}:(eX A i j q).length=A.length:=by unfold eX;rw[kV]
theorem gI{A:List (List Rat)}{a:List Rat}(h:A[i]?=some a):eX A i j q=A.set i (a.set j (vf a j+q)):=by
 unfold eX;rw[dH,h];rfl
theorem MI{A:List (List Rat)}(h:∀a∈A,a.length=n)(hi:i<A.length):∀a∈eX A i j q,a.length=n:=fun a ha=>by
 obtain⟨r,hr⟩:∃r,A[i]?=some r:=⟨_,gS hi⟩;rw[gI hr] at ha;rcases List.mem_or_eq_of_mem_set ha with h1 | h1
 ·exact h a h1
 ·rw[h1,kV];exact h r (bS hr)
theorem aGf{A:List (List Rat)}(h:Bd K A)(hi:i<A.length)(hw:∀a∈A,a.length=n)(hj:j<n)(hq:bE q<=1):Bd (K+2) (eX A i j q):=fun a ha x hx=>by
 obtain⟨r,hr⟩:∃r,A[i]?=some r:=⟨_,gS hi⟩;rw[gI hr] at ha;rcases List.mem_or_eq_of_mem_set ha with h1 | h1
 ·exact b_ (h a h1 x hx) (by omega)
 ·rw[h1] at hx
  rcases List.mem_or_eq_of_mem_set hx with h2 | h2
  ·exact b_ (h r (bS hr) x h2) (by omega)
  ·have h3:=h.vf hr (j:=j) (by rw[hw r (bS hr)];exact hj)
   have h4:=kJ (vf r j) q;rw[h2];omega
theorem eH(h:CS free u=some i):i<free.length/\free[i]?=some u:=by
 unfold CS at h;rw[List.findIdx?_eq_some_iff_getElem] at h;obtain⟨h1,h2,_⟩:=h;refine⟨h1,?_⟩;rw[gS h1];simpa using h2
theorem aLG{v:Nat}(h:CS free u=some i)(h2:CS free v=some j)(cG:u≠v):i≠j:=by
 rintro rfl;have a:=(eH h).2;have b:=(eH h2).2;rw[a] at b;injection b with b;exact cG b
structure eZ (n K:Nat) (A:List (List Rat)):Prop where
 len:A.length=n
 wid:∀a∈A,a.length=n
 bd:Bd K A
theorem eZ.add{A:List (List Rat)}(h:eZ n K A)(hi:i<n)(hj:j<n)(hq:bE q<=1):eZ n (K+2) (eX A i j q):=
 ⟨MJ.trans h.len,MI h.wid (by rw[h.len];exact hi),aGf h.bd (by rw[h.len];exact hi) h.wid hj hq⟩
theorem eZ.mono{K':Nat}{A:List (List Rat)}(h:eZ n K A)(hk:K<=K'):eZ n K' A:=⟨h.len,h.wid,h.bd.mono hk⟩
theorem zA{v:Nat}{A:List (List Rat)}{b:Rat}(h:eZ free.length K A)(hb:bE b<=1):eZ free.length (K+8) (gO free A b u v):=by
 unfold gO;split
 ·exact h.mono (by omega)
 ·cases h1:CS free u with
  | none=>
   cases h2:CS free v with
   | none=>exact h.mono (by omega)
   | some j=>exact(h.add (eH h2).1 (eH h2).1 hb).mono (by omega)
  | some i=>
   cases h2:CS free v with
   | none=>exact(h.add (eH h1).1 (eH h1).1 hb).mono (by omega)
   | some j=>
    have a1:=h.add (eH h1).1 (eH h1).1 hb;have a2:=a1.add (eH h2).1 (eH h2).1 hb;have a3:=a2.add (eH h1).1 (eH h2).1 (q:=-b) (by rw[mH];exact hb);exact(a3.add (eH h2).1 (eH h1).1 (q:=-b) (by rw[mH];exact hb)).mono (by omega)
theorem BI(n:Nat):eZ n 3 (oH n):=by
 unfold oH;refine⟨qV,fun a ha=>by rw[(List.mem_replicate.1 ha).2,qV],fun a ha x hx=>?_⟩;rw[(List.mem_replicate.1 ha).2] at hx;rw[(List.mem_replicate.1 hx).2];decide+kernel
theorem o_{b:Br}(h:b.bad=false):bE (dB b)<=1:=by
 have h1:1<=b.x/\b.x<=10000/\500<=b.tap/\b.tap<=1500:=by
  unfold Br.bad at h;simp only[Bool.or_eq_false_iff] at h;obtain⟨⟨⟨⟨⟨a1,a2⟩,_⟩,_⟩,_⟩,_⟩:=h;unfold lK at a1 a2;have:=of_decide_eq_false a1;have:=of_decide_eq_false a2;omega
 obtain⟨k,hk⟩:∃k:Nat,b.x*b.tap=(k:Int):=⟨(b.x*b.tap).toNat,(Int.toNat_of_nonneg (Int.mul_nonneg (by omega) (by omega))).symm⟩;have NT:b.x*b.tap<=10000*1500:=Int.mul_le_mul h1.2.1 h1.2.2.2 (by omega) (by omega);have vJ:1*500<=b.x*b.tap:=Int.mul_le_mul h1.1 h1.2.2.1 (by omega) (by omega);have kO:k≠0:=by omega
 unfold dB bE;rw[hk,(nH 1000000 kO).2,(sE 1000000 kO).1];refine Nat.max_le.2 ⟨kI ?_,kI ?_⟩
 ·refine zT_ (Nat.div_le_self ..) ?_
  show _<4294967296^1;decide
 ·refine zT_ (Nat.div_le_self ..) ?_
  show _<4294967296^1;omega
theorem aA3(A:OA)(n c:Nat)(zs:List Int)(z:Int)(w:Wo)(hr:pK w w.heap.size A n zs)(hn:n<=9223372036854775807):Calls Tryz.prog 158 #[.slice A n c,.int .i64 z] w fun e w'=>e=.returned (.int .i64 (gM (fun x=>decide (z=x)) zs 0))/\w=w':=by
 have d8:=lH hr.len;go_enter Tryz.func158,Tryz.ntmps158
 go_wp2_with fail
 go_loop [5,8] (fun _ i=>∃k:Nat,k<=n/\i=.int .i64 k/\gM (fun x=>decide (z=x)) zs 0=gM (fun x=>decide (z=x)) (zs.drop k) k) (fun _ i=>n-(intOf i).toNat)
 case atStart=>exact⟨0,by omega,rfl,rfl⟩
 case round=>
  obtain⟨k,hk,rfl,IH⟩:=hrel;have zI:=lH IH;clear IH;by_cases aR:k<n
  ·obtain⟨y,hy⟩:∃y,zs[k]?=some y:=eE (by have:=d8.out;omega)
   obtain⟨b,off,rfl,VR,-⟩:=hr.2 (by omega);have jI:=hr.at_ hy;have HZ:=lH (bX hy);clear hy;by_cases hp:z=y
   ·subst hp
    (go_wp2_with fail);go_ret;exact⟨aU (by rw[zI.o,HZ.o];simp[gM]),rfl⟩
   ·have HP:=lH hp
    go_wp2_with fail
    go_round
    case rel=>exact⟨k+1,by omega,by go_num,by rw[zI.o,HZ.o];simp[gM,HP.o]⟩
    case measure=>simp[intOf];omega
  ·have hd:zs.drop k=[]:=by rw[List.drop_eq_nil_iff];have:=d8.out;omega
   have HD:=lH hd;clear hd;(go_wp2_with fail);go_ret;exact⟨aU (by rw[zI.o,HD.o];rfl),rfl⟩
def CV(o:Option Nat):Int:=match o with | none=>-1 | some i=>(i:Int)
theorem aA5(free:List Nat)(u:Nat):gM (fun x=>decide ((u:Int)=x)) (e_ free) 0=CV (CS free u):=by
 have key:∀(l:List Nat)(k:Nat),gM (fun x=>decide ((u:Int)=x)) (e_ l) k=CV ((l.findIdx? (· == u)).map (·+k)):=by
  intro l
  induction l with
  | nil=>intro k;rfl
  | cons a r ih=>
   intro k;rw[List.findIdx?_cons];show(if decide ((u:Int)=(a:Int)) then(k:Int) else gM _ (e_ r) (k+1))=_;by_cases h:u=a
   ·subst h;simp[CV]
   ·have h1:¬((u:Int)=(a:Int)):=by omega
    have h2:(a == u)=false:=by simp;omega
    rw[decide_eq_false h1,ih (k+1),h2];simp only[Bool.false_eq_true,if_false];congr 1
    rw[Option.map_map];congr 1
    funext i
    simp;omega
 have:=key free 0;rw[this];unfold CS;congr 1
 cases free.findIdx? (· == u)<;>simp
structure iC where
 A0:OA
 n0:Nat
 c0:Nat
 A1:OA
 n1:Nat
 c1:Nat
 A2:OA
 n2:Nat
 c2:Nat
 A3:OA
 n3:Nat
 c3:Nat
 A4:OA
 n4:Nat
 c4:Nat
 A5:OA
 n5:Nat
 c5:Nat
 A6:OA
 n6:Nat
 c6:Nat
def iC.cells(m:iC)(v:Value):Array Value:=#[.slice m.A0 m.n0 m.c0,.slice m.A1 m.n1 m.c1,.slice m.A2 m.n2 m.c2,.slice m.A3 m.n3 m.c3,.slice m.A4 m.n4 m.c4,.slice m.A5 m.n5 m.c5,.slice m.A6 m.n6 m.c6,v]
structure eK (w:Wo) (B:Nat) (m:iC) (x:bK):Prop where
 r0:pK w B m.A0 m.n0 (kS x)
 r1:pK w B m.A1 m.n1 (DA x)
 r2:pK w B m.A2 m.n2 (e_ (hO x))
 r3:pK w B m.A3 m.n3 (e_ (BR x))
 r4:iE w B m.A4 m.n4 (mB x)
 r5:iE w B m.A5 m.n5 (mC x)
 r6:pK w B m.A6 m.n6 (e_ (aA x))
section
variable {w w':Wo} {B B':Nat} {m:iC} {x:bK}
theorem eK.below(r:eK w B m x)(hb:Below B' w w')(h:B<=B'):eK w' B m x:=⟨r.r0.below hb h,r.r1.below hb h,r.r2.below hb h,r.r3.below hb h,r.r4.below hb h,r.r5.below hb h,r.r6.below hb h⟩
theorem eK.more(r:eK w B m x)(h:B<=B'):eK w B' m x:=⟨r.r0.more h,r.r1.more h,r.r2.more h,r.r3.more h,r.r4.more h,r.r5.more h,r.r6.more h⟩
theorem eK.up(r:eK w w.heap.size m x)(hb:Below w.heap.size w w'):eK w' w'.heap.size m x:=(r.below hb lR).more hb.size
end
theorem eO(l:List Nat):(e_ l).length=l.length:=by unfold e_;rw[iT]
theorem eT{l:List Nat}(h:l[i]?=some u):(e_ l)[i]?=some (u:Int):=by unfold e_;rw[lT,h];rfl
theorem lW(x:bK):(hO x).length=x.brs.length:=by unfold hO KH;rw[iT,iT]
theorem rG(x:bK):(BR x).length=x.brs.length:=by unfold BR KH;rw[iT,iT]
theorem oW(x:bK):(mB x).length=x.brs.length:=by unfold mB;rw[iT]
theorem NH(x:bK):(mC x).length=x.brs.length:=by unfold mC;rw[iT]
theorem aAD(g:Nat)(m:iC)(v:Value)(free:List Nat)(u:Nat)(w:Wo)(hb:aD w g 122 (m.cells v))(hr:pK w w.heap.size m.A6 m.n6 (e_ free))(hn:m.n6<=9223372036854775807):Calls Tryz.prog 127 #[.pointer (some ⟨g,0,none⟩),.int .i64 (u:Int)] w fun e w'=>e=.returned (.int .i64 (CV (CS free u)))/\w=w':=by
 have c6:=hb.cell 6;have hl:=hb.lt;have HC:=lH (aA3 m.A6 m.n6 m.c6 (e_ free) (u:Int) w hr hn);rw[aA5] at HC;obtain⟨A0,n0,c0,A1,n1,c1,A2,n2,c2,A3,n3,c3,A4,n4,c4,A5,n5,c5,A6,n6,k6⟩:=m;simp only[iC.cells] at c6 HC;clear hb hr;go_enter Tryz.func127,Tryz.ntmps127
 go_wp2_with fail
 refine HC.o.mono ?_;rintro e w' ⟨rfl,rfl⟩
 go_wp2_with fail
 go_ret;exact⟨rfl,rfl⟩
theorem XH{base gz:Nat}(hb:aD w gz 115 (fI (List.replicate n v)).toArray)(hv:cU w w.heap.size 0 v)(h1:base<=gz)(h2:gz≠g)(hn:n<=1000000):sV w base g ⟨some ⟨gz,0,none⟩,gz,n,List.replicate n v⟩ (List.replicate n 0):=
 ⟨by simp,by simp,by simp only[maxLen];omega,aDq hv,fun _=>⟨rfl,h1,h2,_,hb,by rw[qV];show(fI (List.replicate n v)).take (n*4)=_;rw[nT (by rw[dW,qV];exact lR)]⟩⟩
theorem XG(hk:k<n):((oH n).take k++List.replicate (n-k) []).set k (List.replicate n 0)=(oH n).take (k+1)++List.replicate (n-(k+1)) []:=
 IR (by unfold oH;rw[qV]) (by unfold oH;rw[List.getElem?_replicate,if_pos hk])
theorem eK.bm{w':Wo}{m:iC}(r:eK w w.heap.size m x)(g:Below w.heap.size w w'):eK w' w'.heap.size m x:=(r.below g lR).more g.size
theorem yO{m:iC}{A:OA}{c:Nat}{u:Value}(h:(m.cells (.slice A n c))[i]?=some u):∃A' n' c',u=.slice A' n' c':=by
 have h2:u∈(m.cells (.slice A n c)).toList:=Array.mem_toList_iff.2 (Array.mem_of_getElem? h);simp only[iC.cells,List.mem_cons,List.not_mem_nil,or_false] at h2;rcases h2 with rfl | rfl | rfl | rfl | rfl | rfl | rfl | rfl<;>exact⟨_,_,_,rfl⟩
section
variable {w:Wo} {g T:Nat} {m:iC} {A:OA} {k c:Nat}
theorem pK.keepm{B:Nat}{zs:List Int}(h:pK w B A0 n zs)(hb:aD w g T (m.cells (.slice A k c)))(i:Nat)(u:Value):pK (w.setCell ⟨g,i,none⟩ u) B A0 n zs:=by
 refine⟨h.1,fun hn=>?_⟩;obtain⟨b,off,e,aR,hc⟩:=h.2 hn;refine⟨b,off,e,aR,fun j v hv=>?_⟩;have h1:=hc j v hv;rw[World.cell?_setCell_other]
 ·exact h1
 ·rintro e2
  injection e2 with e2;subst e2;rw[hb.cell] at h1;obtain⟨A',n',c',rfl⟩:=yO h1;unfold ints at hv;rw[lT] at hv;obtain⟨z,_,hz⟩:=Option.map_eq_some_iff.1 hv;cases hz
theorem cU.keepm{x:Rv}(h:cU w w.heap.size q x)(hb:aD w g T (m.cells (.slice A k c)))(hi:i<8)(u:Value):cU (w.setCell ⟨g,i,none⟩ u) (w.setCell ⟨g,i,none⟩ u).heap.size q x:=by
 obtain⟨y,hy⟩:∃y,(m.cells (.slice A k c))[i]?=some y:=⟨_,Array.getElem?_eq_getElem (by show i<8;exact hi)⟩;obtain⟨A',n',c',rfl⟩:=yO hy;have h0:cQ w w.heap.size q x.b1 x.A x.n x.c x.b2 x.A2 x.m x.d:=h;exact cQ.keep h0 (v:=.slice A' n' c') (by rw[hb.cell];exact hy) (fun a b e=>by cases e) u
theorem iE.keepm{qs:List Rat}(h:iE w w.heap.size A0 n qs)(hb:aD w g T (m.cells (.slice A k c)))(hi:i<8)(u:Value):iE (w.setCell ⟨g,i,none⟩ u) (w.setCell ⟨g,i,none⟩ u).heap.size A0 n qs:=by
 obtain⟨vs,h1,h2,h3,h4⟩:=h;refine⟨vs,h1,h2,⟨h3.1,fun hn=>?_⟩,fun j q v hq hv=>(h4 j q v hq hv).keepm hb hi u⟩;obtain⟨b,off,e,aR,hc⟩:=h3.2 hn;have YO:b≠g:=by
  rintro rfl;obtain⟨v,hv⟩:∃v,vs[0]?=some v:=eE (by omega);have:=hc 0 (.bool v.b1) (by have h5:=tI hv 0 (by decide);simpa[Rv.cells] using h5);rw[Nat.add_zero,hb.cell] at this;obtain⟨A',n',c',e⟩:=yO this;cases e
 refine⟨b,off,e,by simpa[World.setCell] using aR,fun j v hv=>?_⟩;rw[World.cell?_setCell_other _ _ _ _ (fun e2=>YO (by injection e2 with e2;exact e2.symm))];exact hc j v hv
theorem jP.keepm{M:List (List Rat)}(h:jP w w.heap.size A0 n M)(hb:aD w g T (m.cells (.slice A k c)))(hA:∀b off,A0=some ⟨b,off,none⟩->b≠g)(hi:i<8)(u:Value):jP (w.setCell ⟨g,i,none⟩ u) (w.setCell ⟨g,i,none⟩ u).heap.size A0 n M:=by
 obtain⟨hs,h1,h2,h3,h4⟩:=h;refine⟨hs,h1,h2,⟨h3.1,fun hn=>?_⟩,fun j z q hz hq=>⟨(h4 j z q hz hq).1.keepm hb hi u,(h4 j z q hz hq).2⟩⟩;obtain⟨b,off,e,aR,hc⟩:=h3.2 hn;refine⟨b,off,e,by simpa[World.setCell] using aR,fun j v hv=>?_⟩;rw[World.cell?_setCell_other _ _ _ _ (fun e2=>hA b off e (by injection e2 with e2;exact e2.symm))];exact hc j v hv
theorem eK.keepm{m':iC}(h:eK w w.heap.size m' x)(hb:aD w g T (m.cells (.slice A k c)))(hi:i<8)(u:Value):eK (w.setCell ⟨g,i,none⟩ u) (w.setCell ⟨g,i,none⟩ u).heap.size m' x:=by
 have hs:(w.setCell ⟨g,i,none⟩ u).heap.size=w.heap.size:=by simp[World.setCell]
 refine⟨?_,?_,?_,?_,h.r4.keepm hb hi u,h.r5.keepm hb hi u,?_⟩<;>rw[hs]
 ·exact h.r0.keepm hb i u
 ·exact h.r1.keepm hb i u
 ·exact h.r2.keepm hb i u
 ·exact h.r3.keepm hb i u
 ·exact h.r6.keepm hb i u
end
theorem jL.keepv{B0:Nat}{w0 wr:Wo}{v:Value}{piv:List Nat}{hs:List Mh}{L:List (List Rat)}(m:jL B0 g w0 wr v piv hs L){h:Mh}{q:List Rat}{x u:Rv}{z:Rat}(hh:hs[i]?=some h)(hq:L[i]?=some q)(hj:j<q.length)(hu:cU wr wr.heap.size z u):cU (eG wr h.g j x) (eG wr h.g j x).heap.size z u:=by
 have hr:=m.own.row i h q hh hq;obtain⟨h1,h2,h3,cs,h4,h5⟩:=hr.lies (by omega);obtain⟨y,hy⟩:∃y,h.vs[j]?=some y:=eE (by rw[hr.len];exact hj);exact cU.keep4 hu x h4 h5 hy
def aRC(g:Nat)(m:iC)(x:bK)(w:Wo)(e:Ending)(w':Wo):Prop:=e=.returned (.tuple #[])/\w.grownBy w' (some g)/\eK w' w'.heap.size m x/\∃A n c,aD w' g 122 (m.cells (.slice A n c))/\(aAU x->n=(aA x).length/\jP w' w'.heap.size A n (yP x))
theorem fN(ok:bJ x)(h8:x.nodes.length<=8):(aA x).length<=8:=by
 unfold aA kR;refine b_ (List.length_filter_le _ _) ?_;rw[List.length_range];exact b_ (eW ok).2 h8
theorem WL{B:List Rat}{F G:List Nat}{A:List (List Rat)}{v:Nat}{b:Rat}(h1:B[k]?=some b)(h2:F[k]?=some u)(h3:G[k]?=some v):xY free (B.drop k) (F.drop k) (G.drop k) A=xY free (B.drop (k+1)) (F.drop (k+1)) (G.drop (k+1)) (gO free A b u v):=by
 rw[bX h1,bX h2,bX h3];rfl
theorem U3(g:Nat)(m:iC)(x:bK)(ok:bJ x)(h8:x.nodes.length<=8)(w:Wo)(hb:aD w g 122 (m.cells (.slice none 0 0)))(r:eK w w.heap.size m x):Calls Tryz.prog 93 #[.pointer (some ⟨g,0,none⟩)] w (aRC g m x w):=by
 have HG:=lH hb;have HR:=lH r;have FG:Hid ((aA x).length=m.n6):=lH (by rw[<-eO];exact r.r6.len);have m8:Hid (x.brs.length=m.n4):=lH (by rw[<-oW];exact r.r4.len);have iD:Hid (x.brs.length=m.n2):=lH (by rw[<-lW,<-eO];exact r.r2.len);have tY:Hid (x.brs.length=m.n3):=lH (by rw[<-rG,<-eO];exact r.r3.len);have h6:m.n6<=8:=by rw[<-FG.o];exact fN ok h8
 have h4:m.n4<=24:=by rw[<-m8.o];exact ok.l2
 have SQ:Hid (∀q∈mB x,bE q<=1):=lH fun q hq=>by
  unfold mB at hq;obtain⟨b,hb,rfl⟩:=List.mem_map.1 hq;exact o_ (ok.br b hb).2.2.2
 have BL:Hid (∀(u:Nat)(w':Wo),Below w.heap.size w w'->Calls Tryz.prog 127 #[.pointer (some ⟨g,0,none⟩),.int .i64 (u:Int)] w' fun e w''=>e=.returned (.int .i64 (CV (CS (aA x) u)))/\w''=w'):=lH fun u w' hb'=>
  (aAD g m _ (aA x) u w' (HG.o.bl hb') (r.r6.bm hb') (by omega)).mono fun e w'' h=>⟨h.1,h.2.symm⟩
 clear hb r ok h8;have y6:=HG.o.cell 6;have yl:=HG.o.lt;have s_:∀w:World,(Instr.makeSlice 92 (.int .i64 (m.n6:Int)) (.int .i64 (m.n6:Int))).run Tryz.prog w=.ok (.slice (some ⟨w.heap.size,0,none⟩) m.n6 m.n6) (w.alloc (.cells (fF m.n6) 93)):=fun w=>wJ m.n6 (by omega) w;have HK:=lH ((Below.refl w.heap.size w).alloc lR (.cells (fF m.n6) 93));have HGM:=lH (aD.new w 93 (fF m.n6));obtain⟨A0,n0,c0,A1,n1,c1,A2,n2,c2,A3,n3,c3,A4,n4,c4,A5,n5,c5,A6,n6,c6⟩:=m;simp only[iC.cells] at HG y6 s_ HK HGM FG m8 iD tY h6 h4;go_enter Tryz.func93,Tryz.ntmps93
 go_wp2_with fail
 clear s_;generalize w.alloc (.cells (fF n6) 93)=W at *;have HO:=lH (wF HGM.o lR);generalize EJ:w.heap.size=ga at *;have EU:=lH EJ;clear EJ HGM
 go_loopw [18] (fun v18 wr=>∃(k:Nat)(hs:List Mh),k<=n6/\v18=.int .i64 k/\Below ga w wr/\jK wr ga ga hs ((oH n6).take k++List.replicate (n6-k) [])) (fun v18 _=>n6-(intOf v18).toNat)
 case atStart=>exact⟨0,_,by omega,rfl,HK.o,by rw[List.take_zero,List.nil_append,Nat.sub_zero];exact HO.o⟩
 case round=>
  clear HK HO;obtain⟨k,hs,hk,rfl,hb,ho⟩:=hrel;have HK:=lH hb;have HO:=lH ho;clear hb ho;by_cases aR:k<n6
  ·have f_:(k:Int)<(n6:Int):=by omega
   have kL:=lN k;have iR:Hid (n6-(k+1)<n6-k):=lH (by omega);have sX:Hid (ga<wr.heap.size):=lH HO.o.top.lt;clear y6 yl;(go_wp2_with fail);refine(lS n6 wr (by omega)).mono ?_;rintro e w7 ⟨iA,gz,vz,rfl,hgz,oY,hvz⟩;have tD:=lH (HO.o.up iA);have tC:Hid (sV w7 ga ga ⟨some ⟨gz,0,none⟩,gz,n6,List.replicate n6 vz⟩ (List.replicate n6 0)):=lH (XH oY hvz (by have:=sX.o;omega) (by have:=sX.o;omega) (by omega));have gT:=lH (HK.o.trans (iA.mono (oO sX.o)));have ZW:Hid (∀j (h':Mh),j≠k->hs[j]?=some h'->0<h'.vs.length->0<(List.replicate n6 vz).length->h'.g≠gz):=lH fun j h' _ hh l1 l2=>by
    have h3:=HO.o.lt hh l1;omega
   clear iA oY hvz hgz HK HO;have gl:=tD.o.top.lt;have gf:=tD.o.top.frozen;have JE:Hid (k<(((oH n6).take k++List.replicate (n6-k) []):List (List Rat)).length):=lH (by simp[oH];omega);obtain⟨gv,gc⟩:∃gv,w7.cell? ⟨ga,k,none⟩=some gv:=by
    rw[tD.o.top.cell];exact⟨_,Array.getElem?_eq_getElem (by rw[List.size_toArray,iT,tD.o.len];exact JE.o)⟩
   have BY:=lH (tD.o.setRow JE.o tC.o ZW.o);rw[XG aR,qV] at BY;(go_wp2_with fail);go_roundw
   case rel=>exact⟨k+1,_,aR,aQ kL.o,gT.o.setCell lR _,BY.o⟩
   case measure=>exact iR.o
  ·have mL:k=n6:=by omega
   have rU:Hid (jK wr ga ga hs (oH n6)):=lH (by
    have h:=HO.o;rw[mL,Nat.sub_self,List.replicate_zero,List.append_nil,nT (by unfold oH;rw[qV];exact lR)] at h;exact h)
   have f_:¬(k:Int)<(n6:Int):=by omega
   have JZ:Hid (Below w.heap.size w wr):=lH (by rw[EU.o];exact HK.o);have BN:=lH (HG.o.bl JZ.o);have y4:=BN.o.cell 4;have yl1:=BN.o.lt;clear y6 yl HO mL;(go_wp2_with fail);clear y4 yl1 JZ BN;generalize wr=wz at *
   go_loopw [32] (fun v32 wr=>∃(k:Nat)(hs:List Mh) (A:List (List Rat)),k<=n4/\v32=.int .i64 k/\jL ga ga w wr (.slice none 0 0) [] hs A/\eZ n6 (3+8*k) A/\xY (aA x) ((mB x).drop k) ((hO x).drop k) ((BR x).drop k) A=qT x) (fun v32 _=>n4-(intOf v32).toNat)
   case atStart=>exact⟨0,hs,oH n6,by omega,rfl,⟨rU.o,dI _ _ _ _ _,HK.o⟩,BI n6,by unfold qT;rw[FG.o];rfl⟩
   case round=>
    clear HK rU;obtain⟨k,hs,A,hk,rfl,ho,mD,oR⟩:=hrel;have hb:=ho.low;obtain⟨dE,bM,lQ⟩:=dZ ho mD oR;have HW:Hid (Below w.heap.size w wr):=lH (by rw[EU.o];exact hb);have tC:=lH ((HR.o.below hb lR).more (oO ho.own.top.lt));have BN:=lH (HG.o.bl HW.o);clear hb ho mD oR;by_cases aR:k<n4
    ·obtain⟨q,hq⟩:∃q,(mB x)[k]?=some q:=eE (by rw[oW];have:=m8.o;omega)
     obtain⟨u,hu⟩:∃u,(hO x)[k]?=some u:=eE (by rw[lW];have:=m8.o;omega);obtain⟨v,hv⟩:∃v,(BR x)[k]?=some v:=eE (by rw[rG];have:=m8.o;omega);have gZ:=lH (WL (free:=aA x) (A:=A) hq hu hv);rw[lQ.o] at gZ;have WX:=lH (SQ.o q (bS hq));have E5:=tC.o.r4;have EF:=tC.o.r2;have DC:=tC.o.r3;simp only at E5 EF DC;obtain⟨ab,ao,AV,lO⟩:=E5.form (by omega);subst AV;obtain⟨xr,a0,a1,a2,a3,a4⟩:=E5.at_ hq;have HX:=lH a4;obtain⟨fb,fo,KF,qK,-⟩:=EF.2 (by have:=iD.o;have:=m8.o;omega);subst KF;have f0:=EF.at_ (eT hu);obtain⟨tb,to2,hA3,S_,-⟩:=DC.2 (by have:=tY.o;have:=m8.o;omega);subst hA3;have t0:=DC.at_ (eT hv);have f_:(k:Int)<(n4:Int):=by omega
     have vJ:k<n2:=by have:=iD.o;have:=m8.o;omega
     have hk3:k<n3:=by have:=tY.o;have:=m8.o;omega
     have aQG:(k:Int)<(n2:Int):=by omega
     have aQF:(k:Int)<(n3:Int):=by omega
     have kO:=lZ k;have rR:=jM k;have kL:=lN k;have iR:Hid (n4-(k+1)<n4-k):=lH (by omega);have a54:Hid (ga<wr.heap.size):=lH dE.o.own.top.lt;clear hq hu hv a4 E5 EF DC;(go_upto_region 10 with fail);clear a0 a1 a2 a3;generalize EC:wr.alloc (.cells #[.bool xr.b1,.slice xr.A xr.n xr.c,.bool xr.b2,.slice xr.A2 xr.m xr.d] 115)=wa;have qM:Below wr.heap.size wr wa:=by rw[<-EC];exact bA
     have HSX:Hid (aD wa wr.heap.size 115 #[.bool xr.b1,.slice xr.A xr.n xr.c,.bool xr.b2,.slice xr.A2 xr.m xr.d]):=lH (by rw[<-EC];exact aD.new wr _ _);have fO:Hid (BO wa ga wr.heap.size hs q xr):=lH ⟨HSX.o,HX.o.up qM,fun i h hh l=>dE.o.own.lt hh l⟩;replace dE:=lH (dE.o.up qM);replace BN:=lH (BN.o.bl qM);have f0':=(qM.cell (p:=⟨fb,fo+k,none⟩) qK).trans f0;have t0':=(qM.cell (p:=⟨tb,to2+k,none⟩) S_).trans t0;have tB:fb<wa.heap.size:=kA qK qM.size;have QX:tb<wa.heap.size:=kA S_ qM.size;clear f0 t0 qK S_ tC EC qM HSX HX;generalize hgx:wr.heap.size=gx at *;have HGX:=lH hgx;clear hgx;have HPA:Hid (∀(u N:Nat),Calls Tryz.prog 127 #[.pointer (some ⟨g,0,none⟩),.int .i64 (u:Int)] (wa.drewN N) fun e w''=>e=.returned (.int .i64 (CV (CS (aA x) u)))/\w''=wa.drewN N):=lH fun u N=>BL.o u (wa.drewN N) (bF dE.o.low N);have y2:=BN.o.cell 2;have y3:=BN.o.cell 3;have yl:=BN.o.lt
     go_quiet ((first | (go_at_call_of 127 (Value.int .i64 (u:Int));exact(HPA.o u _).mono (fun _ _ hh=>⟨hh.1,_,hh.2⟩)) | (go_at_call_of 127 (Value.int .i64 (v:Int));exact(HPA.o v _).mono (fun _ _ hh=>⟨hh.1,_,hh.2⟩))))
     replace dE:=lH (dE.o.up (bF bR nq));replace fO:=lH (fO.o.up (bF bR nq));clear HPA;replace BN:=lH (BN.o.drewN nq);have f0:(wa.drewN nq).cell? ⟨fb,fo+k,none⟩=some (.int .i64 (u:Int)):=f0';have t0:(wa.drewN nq).cell? ⟨tb,to2+k,none⟩=some (.int .i64 (v:Int)):=t0';have aVV:fb<(wa.drewN nq).heap.size:=tB;have aUL:tb<(wa.drewN nq).heap.size:=QX;clear f0' t0' tB QX y2 y3 yl;generalize wa.drewN nq=wd at *;have y2:=BN.o.cell 2;have y3:=BN.o.cell 3;have yl:=BN.o.lt;by_cases YE:u=v
     ·subst YE
      have OH:Hid (gO (aA x) A q u u=A):=lH (by unfold gO;rw[if_pos rfl]);rw[OH.o] at gZ;(go_wp2_with fail)
      go_quiet (fail)
      (go_wp2_with fail);go_roundw
      case rel=>exact⟨k+1,hs,A,aR,aQ kL.o,dE.o.up (bF bR _),bM.o.mono (by omega),gZ.o.symm⟩
      case measure=>exact iR.o
     ·have aUH:¬((u:Int)=(v:Int)):=by omega
      have aUI:((u:Int) == (v:Int))=false:=by simp;omega
      go_wp2_with fail
      go_quiet (fail)
      clear f0 t0 aVV aUL y2 y3 yl aUH aUI;replace dE:=lH (dE.o.up (bF bR nq));replace fO:=lH (fO.o.up (bF bR nq));clear BN;generalize wd.drewN nq=we at *;have J0:=lH FG.o;cases hpu:CS (aA x) u with
      | none=>
       cases hpv:CS (aA x) v with
       | none=>
        have OH:Hid (gO (aA x) A q u v=A):=lH (by unfold gO;rw[if_neg YE,hpu,hpv]);rw[OH.o] at gZ;rw[(show CV (none:Option Nat)=-1 from rfl)];(go_wp2_with fail);go_roundw
        case rel=>exact⟨k+1,hs,A,aR,aQ kL.o,dE.o,bM.o.mono (by omega),gZ.o.symm⟩
        case measure=>exact iR.o
       | some j=>
        have hi:=(eH hpv).1;rw[J0.o] at hi;have OH:Hid (gO (aA x) A q u v=eX A j j q):=lH (by unfold gO;rw[if_neg YE,hpu,hpv]);rw[OH.o] at gZ;rw[(show CV (none:Option Nat)=-1 from rfl),show CV (some j)=(j:Int) from rfl];have BS:(j:Int)<(n6:Int):=by omega
        have iW:=lZ j;clear hpu hpv OH;(go_upto_region 15 with fail);obtain⟨ra,t_⟩:∃ra,A[j]?=some ra:=eE (by have:=bM.o.len;omega);have tM:ra.length=n6:=bM.o.wid ra (bS t_);obtain⟨gg,cc,vs,xe,hh,c,hx,c0,c1,c2',c3',hv,l1,f1,cG⟩:=dE.o.elem (i:=j) (j:=j) t_ (by omega);rw[tM] at c;obtain⟨HH,KJ,I_,tX,xO⟩:=iS hh hx hv t_ tM;have F5:Hid (bE (vf ra j)+bE q+1<=35184372088832):=lH (by have:=bM.o.bd.vf t_ (j:=j) (by omega);have:=WX.o;omega);have gl:=dE.o.own.top.lt;obtain⟨z0,z1,z2,z3,zl⟩:=fO.o.blk.b4;have bP:=lH (aI (Below.refl we.heap.size we));have tO:(j:Int)<(n6:Int):=by omega
        have tP:=lZ j;have tN:=jM j;clear hh hx hv t_ tM;refine kQ 15 (fun hHeld=>?_);simp only[m_,List.take_zero];refine cR [0,1,2,3,4,5,6,7,8,9,10,11,12] ?_;refine bI 13 (fun K hK=>?_);go_simp;refine(DO (I_.o.up bP.o) (fO.o.val.up bP.o) F5.o).mono ?_;rintro e w8 ⟨fJ,v8,rfl,h8⟩;have dS:Hid (Below we.heap.size we w8):=lH (bP.o.tm fJ);have H8:=lH h8;clear fJ h8;go_simp;refine iB hK dS.o (fun hHeld=>?_);clear hK K;refine cR [14] ?_;refine eP ?_;clear hHeld;have tZ:=lH (dE.o.up dS.o);have ZN:=lH (fO.o.up dS.o);clear c c0 c1 c2' c3' l1 f1 cG gl z0 z1 z2 z3 zl dE fO I_ F5 bP;obtain⟨c0,c1,c2',c3',l1,f1⟩:=tZ.o.elem2 HH.o tX.o KJ.o;(go_upto_region 16 with fail);clear c0 c1 c2' c3' l1 f1;have dE:=tZ.o.put HH.o tX.o (j:=j) (x:=v8) (by rw[xO.o];omega) H8.o;have fO:=ZN.o.put tZ.o HH.o tX.o (j:=j) (x:=v8) (by rw[xO.o];omega);rw[<-gI tX.o] at dE;replace bM:Hid (eZ n6 (3+8*k+2) (eX A j j q)):=lH (bM.o.add (by omega) (by omega) WX.o);simp only[eG] at dE fO;generalize (((w8.setCell ⟨gg,j*4,none⟩ _).setCell ⟨gg,j*4+1,none⟩ _).setCell ⟨gg,j*4+2,none⟩ _).setCell ⟨gg,j*4+3,none⟩ _=wf at *;replace dE:=lH dE;replace fO:=lH fO;generalize hs.set j _=vH at *;obtain⟨A1,AV⟩:∃A1,eX A j j q=A1:=⟨_,rfl⟩;rw[AV] at dE bM;have HA1:=lH AV;clear AV tZ ZN H8 dS HH tX xO KJ tO tP tN;rw[HA1.o] at gZ;(go_wp2_with fail);go_roundw
        case rel=>exact⟨k+1,vH,A1,aR,aQ kL.o,dE.o,bM.o.mono (by omega),gZ.o.symm⟩
        case measure=>exact iR.o
      | some i=>
       cases hpv:CS (aA x) v with
       | none=>
        have hi:=(eH hpu).1;rw[J0.o] at hi;have OH:Hid (gO (aA x) A q u v=eX A i i q):=lH (by unfold gO;rw[if_neg YE,hpu,hpv]);rw[OH.o] at gZ;rw[(show CV (none:Option Nat)=-1 from rfl),show CV (some i)=(i:Int) from rfl];have BS:(i:Int)<(n6:Int):=by omega
        have iW:=lZ i;clear hpu hpv OH;(go_upto_region 13 with fail);obtain⟨ra,t_⟩:∃ra,A[i]?=some ra:=eE (by have:=bM.o.len;omega);have tM:ra.length=n6:=bM.o.wid ra (bS t_);obtain⟨gg,cc,vs,xe,hh,c,hx,c0,c1,c2',c3',hv,l1,f1,cG⟩:=dE.o.elem (i:=i) (j:=i) t_ (by omega);rw[tM] at c;obtain⟨HH,KJ,I_,tX,xO⟩:=iS hh hx hv t_ tM;have F5:Hid (bE (vf ra i)+bE q+1<=35184372088832):=lH (by have:=bM.o.bd.vf t_ (j:=i) (by omega);have:=WX.o;omega);have gl:=dE.o.own.top.lt;obtain⟨z0,z1,z2,z3,zl⟩:=fO.o.blk.b4;have bP:=lH (aI (Below.refl we.heap.size we));have tO:(i:Int)<(n6:Int):=by omega
        have tP:=lZ i;have tN:=jM i;clear hh hx hv t_ tM;refine kQ 15 (fun hHeld=>?_);simp only[m_,List.take_zero];refine cR [0,1,2,3,4,5,6,7,8,9,10,11,12] ?_;refine bI 13 (fun K hK=>?_);go_simp;refine(DO (I_.o.up bP.o) (fO.o.val.up bP.o) F5.o).mono ?_;rintro e w8 ⟨fJ,v8,rfl,h8⟩;have dS:Hid (Below we.heap.size we w8):=lH (bP.o.tm fJ);have H8:=lH h8;clear fJ h8;go_simp;refine iB hK dS.o (fun hHeld=>?_);clear hK K;refine cR [14] ?_;refine eP ?_;clear hHeld;have tZ:=lH (dE.o.up dS.o);have ZN:=lH (fO.o.up dS.o);clear c c0 c1 c2' c3' l1 f1 cG gl z0 z1 z2 z3 zl dE fO I_ F5 bP;obtain⟨c0,c1,c2',c3',l1,f1⟩:=tZ.o.elem2 HH.o tX.o KJ.o;(go_upto_region 14 with fail);clear c0 c1 c2' c3' l1 f1;have dE:=tZ.o.put HH.o tX.o (j:=i) (x:=v8) (by rw[xO.o];omega) H8.o;have fO:=ZN.o.put tZ.o HH.o tX.o (j:=i) (x:=v8) (by rw[xO.o];omega);rw[<-gI tX.o] at dE;replace bM:Hid (eZ n6 (3+8*k+2) (eX A i i q)):=lH (bM.o.add (by omega) (by omega) WX.o);simp only[eG] at dE fO;generalize (((w8.setCell ⟨gg,i*4,none⟩ _).setCell ⟨gg,i*4+1,none⟩ _).setCell ⟨gg,i*4+2,none⟩ _).setCell ⟨gg,i*4+3,none⟩ _=wf at *;replace dE:=lH dE;replace fO:=lH fO;generalize hs.set i _=vH at *;obtain⟨A1,AV⟩:∃A1,eX A i i q=A1:=⟨_,rfl⟩;rw[AV] at dE bM;have HA1:=lH AV;clear AV tZ ZN H8 dS HH tX xO KJ tO tP tN;rw[HA1.o] at gZ;(go_wp2_with fail);go_roundw
        case rel=>exact⟨k+1,vH,A1,aR,aQ kL.o,dE.o,bM.o.mono (by omega),gZ.o.symm⟩
        case measure=>exact iR.o
       | some j=>
        have hi:=(eH hpu).1;have hj:=(eH hpv).1;have uA:=aLG hpu hpv YE;rw[J0.o] at hi hj;have OH:Hid (gO (aA x) A q u v=eX (eX (eX (eX A i i q) j j q) i j (-q)) j i (-q)):=lH (by unfold gO;rw[if_neg YE,hpu,hpv]);rw[OH.o] at gZ;rw[show CV (some i)=(i:Int) from rfl,show CV (some j)=(j:Int) from rfl];have BS:(i:Int)<(n6:Int):=by omega
        have iW:=lZ i;have hjI:(j:Int)<(n6:Int):=by omega
        have NU:=lZ j;clear hpu hpv OH;(go_upto_region 13 with fail);obtain⟨ra,t_⟩:∃ra,A[i]?=some ra:=eE (by have:=bM.o.len;omega);have tM:ra.length=n6:=bM.o.wid ra (bS t_);obtain⟨gg,cc,vs,xe,hh,c,hx,c0,c1,c2',c3',hv,l1,f1,cG⟩:=dE.o.elem (i:=i) (j:=i) t_ (by omega);rw[tM] at c;obtain⟨HH,KJ,I_,tX,xO⟩:=iS hh hx hv t_ tM;have F5:Hid (bE (vf ra i)+bE q+1<=35184372088832):=lH (by have:=bM.o.bd.vf t_ (j:=i) (by omega);have:=WX.o;omega);have gl:=dE.o.own.top.lt;obtain⟨z0,z1,z2,z3,zl⟩:=fO.o.blk.b4;have bP:=lH (aI (Below.refl we.heap.size we));have tO:(i:Int)<(n6:Int):=by omega
        have tP:=lZ i;have tN:=jM i;clear hh hx hv t_ tM;refine kQ 15 (fun hHeld=>?_);simp only[m_,List.take_zero];refine cR [0,1,2,3,4,5,6,7,8,9,10,11,12] ?_;refine bI 13 (fun K hK=>?_);go_simp;refine(DO (I_.o.up bP.o) (fO.o.val.up bP.o) F5.o).mono ?_;rintro e w8 ⟨fJ,v8,rfl,h8⟩;have dS:Hid (Below we.heap.size we w8):=lH (bP.o.tm fJ);have H8:=lH h8;clear fJ h8;go_simp;refine iB hK dS.o (fun hHeld=>?_);clear hK K;refine cR [14] ?_;refine eP ?_;clear hHeld;have tZ:=lH (dE.o.up dS.o);have ZN:=lH (fO.o.up dS.o);clear c c0 c1 c2' c3' l1 f1 cG gl z0 z1 z2 z3 zl dE fO I_ F5 bP;obtain⟨c0,c1,c2',c3',l1,f1⟩:=tZ.o.elem2 HH.o tX.o KJ.o;(go_upto_region 15 with fail);clear c0 c1 c2' c3' l1 f1;have dE:=tZ.o.put HH.o tX.o (j:=i) (x:=v8) (by rw[xO.o];omega) H8.o;have fO:=ZN.o.put tZ.o HH.o tX.o (j:=i) (x:=v8) (by rw[xO.o];omega);rw[<-gI tX.o] at dE;replace bM:Hid (eZ n6 (3+8*k+2) (eX A i i q)):=lH (bM.o.add (by omega) (by omega) WX.o);simp only[eG] at dE fO;generalize (((w8.setCell ⟨gg,i*4,none⟩ _).setCell ⟨gg,i*4+1,none⟩ _).setCell ⟨gg,i*4+2,none⟩ _).setCell ⟨gg,i*4+3,none⟩ _=wf at *;replace dE:=lH dE;replace fO:=lH fO;generalize hs.set i _=vH at *;obtain⟨A1,AV⟩:∃A1,eX A i i q=A1:=⟨_,rfl⟩;rw[AV] at dE bM;have HA1:=lH AV;clear AV tZ ZN H8 dS HH tX xO KJ tO tP tN;rw[HA1.o] at gZ;obtain⟨ra,t_⟩:∃ra,A1[j]?=some ra:=eE (by have:=bM.o.len;omega);have tM:ra.length=n6:=bM.o.wid ra (bS t_);obtain⟨gg,cc,vs,xe,hh,c,hx,c0,c1,c2',c3',hv,l1,f1,cG⟩:=dE.o.elem (i:=j) (j:=j) t_ (by omega);rw[tM] at c;obtain⟨HH,KJ,I_,tX,xO⟩:=iS hh hx hv t_ tM;have F5:Hid (bE (vf ra j)+bE q+1<=35184372088832):=lH (by have:=bM.o.bd.vf t_ (j:=j) (by omega);have:=WX.o;omega);have gl:=dE.o.own.top.lt;obtain⟨z0,z1,z2,z3,zl⟩:=fO.o.blk.b4;have bP:=lH (aI (Below.refl wf.heap.size wf));have tO:(j:Int)<(n6:Int):=by omega
        have tP:=lZ j;have tN:=jM j;clear hh hx hv t_ tM;refine kQ 15 (fun hHeld=>?_);simp only[m_,List.take_zero];refine cR [0,1,2,3,4,5,6,7,8,9,10,11,12] ?_;refine bI 13 (fun K hK=>?_);go_simp;refine(DO (I_.o.up bP.o) (fO.o.val.up bP.o) F5.o).mono ?_;rintro e w8 ⟨fJ,v8,rfl,h8⟩;have dS:Hid (Below wf.heap.size wf w8):=lH (bP.o.tm fJ);have H8:=lH h8;clear fJ h8;go_simp;refine iB hK dS.o (fun hHeld=>?_);clear hK K;refine cR [14] ?_;refine eP ?_;clear hHeld;have tZ:=lH (dE.o.up dS.o);have ZN:=lH (fO.o.up dS.o);clear c c0 c1 c2' c3' l1 f1 cG gl z0 z1 z2 z3 zl dE fO I_ F5 bP;obtain⟨c0,c1,c2',c3',l1,f1⟩:=tZ.o.elem2 HH.o tX.o KJ.o;(go_upto_region 17 with fail);clear c0 c1 c2' c3' l1 f1;have dE:=tZ.o.put HH.o tX.o (j:=j) (x:=v8) (by rw[xO.o];omega) H8.o;have fO:=ZN.o.put tZ.o HH.o tX.o (j:=j) (x:=v8) (by rw[xO.o];omega);rw[<-gI tX.o] at dE;replace bM:Hid (eZ n6 (3+8*k+2+2) (eX A1 j j q)):=lH (bM.o.add (by omega) (by omega) WX.o);simp only[eG] at dE fO;generalize (((w8.setCell ⟨gg,j*4,none⟩ _).setCell ⟨gg,j*4+1,none⟩ _).setCell ⟨gg,j*4+2,none⟩ _).setCell ⟨gg,j*4+3,none⟩ _=wg at *;replace dE:=lH dE;replace fO:=lH fO;generalize vH.set j _=yS at *;obtain⟨A2,KF⟩:∃A2,eX A1 j j q=A2:=⟨_,rfl⟩;rw[KF] at dE bM;have HA2:=lH KF;clear KF tZ ZN H8 dS HH tX xO KJ tO tP tN;rw[HA2.o] at gZ;obtain⟨ra,t_⟩:∃ra,A2[i]?=some ra:=eE (by have:=bM.o.len;omega);obtain⟨rb,EE⟩:∃rb,A2[j]?=some rb:=eE (by have:=bM.o.len;omega);have tM:ra.length=n6:=bM.o.wid ra (bS t_);have aL8:rb.length=n6:=bM.o.wid rb (bS EE);obtain⟨g1,k1,vs1,x1,hh1,p,p0,p1,p2,p3,p4,nA,l1,f1,aVa⟩:=dE.o.elem (i:=i) (j:=j) t_ (by omega);obtain⟨g2,k2,vs2,x2,hh2,e,e0,e1,e2,e3,e4,kU,l2,f2,Q3⟩:=dE.o.elem (i:=j) (j:=i) EE (by omega);rw[tM] at p;rw[aL8] at e;obtain⟨HH1,HH2,fB,gG,pL⟩:=iS hh1 hh2 p0 e0 nA;obtain⟨yA,tX,HRB,aSd,aXI⟩:=iS kU t_ EE tM aL8;have aXT:Hid (bE (vf ra j)+bE q+1<=35184372088832):=lH (by have:=bM.o.bd.vf t_ (j:=j) (by omega);have:=WX.o;omega);have aXS:Hid (bE (vf rb i)+bE q+1<=35184372088832):=lH (by have:=bM.o.bd.vf EE (j:=i) (by omega);have:=WX.o;omega);have HIJ:=lH uA;have gl:=dE.o.own.top.lt;obtain⟨z0,z1,z2,z3,zl⟩:=fO.o.blk.b4;have bP:=lH (aI (Below.refl wg.heap.size wg));have lE:=jM i;have tA:=jM j;clear hh1 hh2 p0 e0 nA kU t_ EE tM aL8 uA;refine CA (S:=fun w'=>Below wg.heap.size wg w') 28 9 _ _ _ _ (.int .i64 (i:Int)) (by kernel_rfl) (by kernel_rfl) (by kernel_rfl) (by kernel_rfl) rfl (by decide) (by kernel_rfl) rfl rfl rfl (by kernel_rfl) (fun _ _ _ h=>h) (by rfl) (fun w'=>by go_simp<;>with_reducible rfl) (aI bR) (fun hHeld=>?_);simp only[m_,List.take_zero];(try simp only[Act.put,fZ,fY,fX]);refine cR [0,1,2,3,4,5,6,7,8,10,11,12,13,14,15,16,17,19,20,21,22,23,24,25,26] ?_;refine bI 18 (fun K hK=>?_);go_simp;refine(MW (pL.o.up bP.o) (fO.o.val.up bP.o) aXT.o).mono ?_;rintro e8 w8 ⟨fJ,v8,rfl,h8⟩;have dS:Hid (Below wg.heap.size wg w8):=lH (bP.o.tm fJ);have H8:=lH h8;clear fJ h8;go_simp;refine iB hK dS.o (fun hHeld=>?_);clear hK K;refine bI 27 (fun K hK=>?_);go_simp;refine(MW (yA.o.up dS.o) (fO.o.val.up dS.o) aXS.o).mono ?_;rintro e9 w9 ⟨gD,v9,rfl,h9⟩;have fH:Hid (Below wg.heap.size wg w9):=lH (dS.o.tm gD);have H9:=lH h9;replace H8:=lH (H8.o.up gD);clear gD h9;go_simp;refine iB hK fH.o (fun hHeld=>?_);clear hK K;refine cR [28] ?_;refine eP ?_;clear hHeld;have W6:=lH (dE.o.up fH.o);clear p p1 p2 p3 p4 l1 f1 aVa e e1 e2 e3 e4 l2 f2 Q3 gl z0 z1 z2 z3 zl dE fO pL yA aXT aXS bP dS;obtain⟨p1,p2,p3,p4,l1,f1⟩:=W6.o.elem2 HH1.o tX.o fB.o;go_simp;have JD:=W6.o.put HH1.o tX.o (j:=j) (x:=v8) (by rw[aSd.o];omega) H8.o;have H10:=jL.keepv (x:=v8) W6.o HH1.o tX.o (j:=j) (by rw[aSd.o];omega) H9.o;rw[Rat.sub_eq_add_neg,<-gI tX.o] at JD;have aNG:Hid ((eX A2 i j (-q))[j]?=some rb):=lH (by rw[gI tX.o,List.getElem?_set_ne HIJ.o];exact HRB.o);have aSN:=lH ((List.getElem?_set_ne (l:=yS) (a:=(⟨some ⟨g1,0,none⟩,g1,k1,vs1.set j v8⟩:Mh)) HIJ.o).trans HH2.o);replace bM:Hid (eZ n6 (3+8*k+2+2+2+2) (eX (eX A2 i j (-q)) j i (-q))):=lH ((bM.o.add (i:=i) (j:=j) (q:=-q) (by omega) (by omega) (by rw[mH];exact WX.o)).add (by omega) (by omega) (by rw[mH];exact WX.o));simp only[eG] at JD H10;generalize (((w9.setCell ⟨g1,j*4,none⟩ _).setCell ⟨g1,j*4+1,none⟩ _).setCell ⟨g1,j*4+2,none⟩ _).setCell ⟨g1,j*4+3,none⟩ _=wh at *;replace JD:=lH JD;replace H10:=lH H10;generalize eX A2 i j (-q)=A3 at *;generalize yS.set i _=hs3 at *;clear p1 p2 p3 p4 l1 f1 W6 H8 H9 fH;obtain⟨e1,e2,e3,e4,l2,f2⟩:=JD.o.elem2 aSN.o aNG.o gG.o;refine c_ (by rfl) ?_;go_simp;refine c_ (by rfl) ?_;(go_wp2_with fail);go_roundw
        case rel=>
         have FH:=JD.o.put aSN.o aNG.o (j:=i) (x:=v9) (by rw[aXI.o];omega) H10.o;rw[Rat.sub_eq_add_neg,<-gI aNG.o] at FH;exact⟨k+1,_,_,aR,aQ kL.o,FH,bM.o.mono (by omega),gZ.o.symm⟩
        case measure=>exact iR.o
    ·have mL:k=n4:=by omega
     have HA:Hid (A=qT x):=lH (by
      have h:=lQ.o;rw[List.drop_eq_nil_of_le (by rw[oW];have:=m8.o;omega)] at h;exact h)
     rw[HA.o] at dE bM;have f_:¬(k:Int)<(n4:Int):=by omega
     have hmr:(qT x).length=n6:=bM.o.len;have FE:Hid (jP wr wr.heap.size (some ⟨ga,0,none⟩) n6 (qT x)):=lH (by have h:=dE.o.own.rd;rwa[hmr] at h);have hpw:4^n6<=4^8:=Nat.pow_le_pow_right (by decide) h6;have W_:=lH (LI (some ⟨ga,0,none⟩) n6 n6 (3+8*k) (qT x) wr FE.o (by omega) bM.o.wid bM.o.bd (by omega) (b_ (Nat.mul_le_mul hpw lR) (by omega)));have lB:=lH hmr;clear lQ HA mL hpw hmr FE bM aR hk;(go_wp2_with fail);refine W_.o.mono ?_;rintro e w1 ⟨bO,halt⟩;have cI:Hid (Below ga w w1):=lH (dE.o.low.trans (bO.mono (oO dE.o.own.top.lt)));have HWL:Hid (ga<=wr.heap.size):=lH (oO dE.o.own.top.lt);have HWS:Hid (ga<=w1.heap.size):=lH (by have:=cI.o.size;have:=EU.o;omega);have BK:=lH ((HR.o.below cI.o lR).more HWS.o);have jA:=lH (HG.o.below cI.o (by have:=HG.o.lt;have:=EU.o;omega));have HGR:Hid (∀u,w.grownBy (w1.setCell ⟨g,7,none⟩ u) (some g)):=lH fun u=>gK (gW (by rw[EU.o];exact cI.o) _) (.inl rfl) u;have BZ:Hid (∀u,aD (w1.setCell ⟨g,7,none⟩ u) g 122 #[.slice A0 n0 c0,.slice A1 n1 c1,.slice A2 n2 c2,.slice A3 n3 c3,.slice A4 n4 c4,.slice A5 n5 c5,.slice A6 n6 c6,u]):=lH fun u=>jA.o.set_at (i:=7) u (by simp)
     have HKM:Hid (∀u,eK (w1.setCell ⟨g,7,none⟩ u) (w1.setCell ⟨g,7,none⟩ u).heap.size ⟨A0,n0,c0,A1,n1,c1,A2,n2,c2,A3,n3,c3,A4,n4,c4,A5,n5,c5,A6,n6,c6⟩ x):=lH fun u=>BK.o.keepm (m:=⟨A0,n0,c0,A1,n1,c1,A2,n2,c2,A3,n3,c3,A4,n4,c4,A5,n5,c5,A6,n6,c6⟩) jA.o (by decide) u;rw[lB.o] at halt;have aND:Hid (aAU x<->¬(l8 (gY (qT x)) n6).2.length<n6):=lH (by unfold aAU;rw[FG.o]);have SY:Hid (yP x=(l8 (gY (qT x)) n6).1.map (List.drop n6)):=lH (by unfold yP;rw[FG.o]);have y7:=jA.o.cell 7;have yl:=jA.o.lt;have yf:=jA.o.frozen;clear bO W_ dE;rcases halt with⟨hh,rfl⟩ | ⟨hh,g2,rfl,lM,NS⟩
     ·have HNR:Hid (¬aAU x):=lH fun h=>aND.o.1 h hh
      clear hh aND SY;(go_wp2_with fail)
      go_end0
      exact⟨rfl,HGR.o _,HKM.o _,none,0,0,BZ.o _,fun h=>absurd h HNR.o⟩
     ·have aXB:Hid (∀u,jP (w1.setCell ⟨g,7,none⟩ u) (w1.setCell ⟨g,7,none⟩ u).heap.size (some ⟨g2,0,none⟩) n6 (yP x)):=lH fun u=>by
       rw[SY.o];refine jP.keepm (m:=⟨A0,n0,c0,A1,n1,c1,A2,n2,c2,A3,n3,c3,A4,n4,c4,A5,n5,c5,A6,n6,c6⟩) NS jA.o (fun b off e=>?_) (by decide) u;injection e with e;injection e with e1 e2;have:=HG.o.lt;have:=EU.o;have:=HWL.o;omega
      clear hh NS aND SY;(go_wp2_with fail)
      go_end0
      exact⟨rfl,HGR.o _,HKM.o _,some ⟨g2,0,none⟩,n6,n6,BZ.o _,fun h=>⟨FG.o.symm,aXB.o _⟩⟩
end

import Derived.Test.YtonlblmobjhjjaaGreatDoorW09
import Derived.Laws.CopyRow
set_option linter.unusedVariables false
set_option linter.unusedSimpArgs false
namespace Go.Proofs.YtonlblmobjhjjaaGreatDoor
set_option maxHeartbeats 8000000
set_option maxRecDepth 100000
variable {A0 : OA} {K g i j k n u : Nat} {free : List Nat} {q : Rat} {v : Rv} {w : World} {x : bP}
section
open Go.ChangeShapes Go.WideShapes Go.ChangeAt Go.RowKit
attribute [local go_sem ↓] aE
attribute [local go_sem] aJ aI aL aX
section
variable (P:Program)
theorem sE(w:Wo)(dT sT ty elem:TypeId)(g o dLen dCap:Nat)(a:Addr)(sLen sCap sz:Nat)(cur:Array Value)(t:TypeId)(cs:List Value)(hu:P.underlying dT=some (.slice elem))(hs:(P.info? elem).map (·.size)=some sz)(hg:w.heap[g]?=some (.cells cur t (0,0)))(hn:cs.length=Nat.min sLen dLen*sz)(rU:∀j v,cs[j]?=some v->w.cell? (a.add j)=some v)(rW:o+cs.length<=cur.size)(h1:∀v∈cs,v.oneCell'=true):(Builtin.copy_ #[dT,sT] ty #[.slice (some ⟨g,o,none⟩) dLen dCap,.slice (some a) sLen sCap]).run P w =
     .ok (goInt (Nat.min sLen dLen)) (w.setRow g (cur.toList.take o++cs++cur.toList.drop (o+cs.length)).toArray):=by
 have hl:=run_loadCells_list (P:=P) w a cs rU;have OW:=run_storeCells_at P g o t cs 0 cur w hg (by simpa using rW) h1;cases hq:P.info? elem with
 | none=>simp[hq] at hs
 | some i=>
  have hi:i.size=sz:=by simpa[hq] using hs
  simp[Builtin.copy_,run_underlying hu,Builtin.lenOf,Builtin.firstCells,sizeOf,typeInfo,hq,hi,<-hn,hl,OW]
end
theorem LV{P:Program}{ops:Array Oper}{o:Oper}{a:Act}{w:Wo}{K:Act->World->Prop}{Q:Exit->Act->World->Prop}{E:Prop}(q:Nat)(hq:o.dst=some q)(C4:o.guard=none)(d s:Operand)(dT sT:TypeId)(ho:o.op=.call { callee:=.builtin .copy,args:=#[d,s],argTypes:=#[dT,sT] })(elem:TypeId)(sz:Nat)(hu:P.underlying dT=some (.slice elem))(gP:(P.info? elem).map (·.size)=some sz)(ad:Addr)(dLen dCap sLen sCap g off:Nat)(hd:a.eval d=.slice (some ⟨g,off,none⟩) dLen dCap)(hs:a.eval s=.slice (some ad) sLen sCap)(cur:List Value)(t:TypeId)(hg:w.heap[g]?=some (.cells cur.toArray t (0,0)))(cs:List Value)(hn:cs.length=Nat.min sLen dLen*sz)(rU:∀j v,cs[j]?=some v->w.cell? (ad.add j)=some v)(rW:off+cs.length<=cur.length)(h1:∀v∈cs,v.oneCell'=true)(B:Nat)(w0:Wo)(hb:Below B w0 w)(hBg:B<=g)(h:∀w',Hid (w'.heap[g]?=some (.cells (splice cur off cs).toArray t (0,0)))->Below B w0 w'->K (a.put (some q) (goInt (Nat.min sLen dLen))) w'):if Region.wanted o (yielded ops a.tmps)=true then Oper.wp P o a w K Q else E:=by
 have hw:Region.wanted o (yielded ops a.tmps)=true:=by simp[Region.wanted,C4]
 rw[if_pos hw];have MV:=sE P w dT sT o.type elem g off dLen dCap ad sLen sCap sz cur.toArray t cs hu gP hg hn rU (by simpa using rW) h1;unfold Oper.wp;simp only[execOp,ho,resolve,invoke,builtin,Sem.run_bind,Sem.run_pure,Result.andThen_ok,List.map_toArray,List.map_cons,List.map_nil,hd,hs,MV];have h2:=h (w.setRow g (cur.take off++cs++cur.drop (off+cs.length)).toArray) (show _=_ by simpa[splice] using setRow_heap w g _ _ t _ hg) (below_setRow hb hBg _);rw[<-hq] at h2;exact h2
theorem E8{P:Program}{w:Wo}{ops:Array Oper}{rest:List Oper}{o:Oper}{a:Act}{Q:Exit->Act->World->Prop}(C4:o.guard=none)(d s:Operand)(dT sT:TypeId)(ho:o.op=.call { callee:=.builtin .copy,args:=#[d,s],argTypes:=#[dT,sT] })(elem:TypeId)(sz:Nat)(hu:P.underlying dT=some (.slice elem))(gP:(P.info? elem).map (·.size)=some sz)(ad:Addr)(dLen dCap sLen sCap g off:Nat)(hd:a.eval d=.slice (some ⟨g,off,none⟩) dLen dCap)(hs:a.eval s=.slice (some ad) sLen sCap)(cur:List Value)(t:TypeId)(hg:w.heap[g]?=some (.cells cur.toArray t (0,0)))(cs:List Value)(hn:cs.length=Nat.min sLen dLen*sz)(rU:∀j v,cs[j]?=some v->w.cell? (ad.add j)=some v)(rW:off+cs.length<=cur.length)(h1:∀v∈cs,v.oneCell'=true)(B:Nat)(w0:Wo)(hb:Below B w0 w)(hBg:B<=g)(h:∀w',Hid (w'.heap[g]?=some (.cells (splice cur off cs).toArray t (0,0)))->Below B w0 w'->wpList P ops Q rest (a.put o.dst (goInt (Nat.min sLen dLen))) w'):wpList P ops Q (o::rest) a w:=by
 refine wpList_plain C4 fun K hK=>?_;have MV:=sE P w dT sT o.type elem g off dLen dCap ad sLen sCap sz cur.toArray t cs hu gP hg hn rU (by simpa using rW) h1;unfold Oper.wp execOp;simp only[ho,resolve,invoke,builtin,Sem.run_bind,Sem.run_pure,Result.andThen_ok,List.map_toArray,List.map_cons,List.map_nil,hd,hs,MV];exact hK _ _ (h _ (show _=_ by simpa[splice] using setRow_heap w g _ _ t _ hg) (below_setRow hb hBg _))
theorem II:(Tryz.prog.info? 87).map (·.size)=some 4:=by kernel_rfl
def ZZ(v:Rv)(k:Nat)(cur:List Value):Prop:=∀i,i<k*4->cur[i]?=(eM (List.replicate k v))[i]?
theorem jT(v:Rv)(k i:Nat)(h:i<k*4):(eM (List.replicate k v))[i]?=v.cells[i % 4]?:=by
 have h1:i / 4<k:=by omega
 have:=sN (vs:=List.replicate k v) (i:=i / 4) (v:=v) (by rw[List.getElem?_replicate,if_pos h1]) (i % 4) (Nat.mod_lt _ (by decide));rwa[show i / 4*4+i % 4=i from by omega] at this
theorem xQ(vs:List Rv):∀u∈eM vs,u.oneCell'=true:=fun u hu=>(tU vs u hu).1
theorem AE{q:Nat}{cur:List Value}(hl:cur.length=n*4)(hc:ZZ v k cur)(hq:k+q<=n):(splice cur (k*4) (eM (List.replicate q v))).length=n*4/\ZZ v (k+q) (splice cur (k*4) (eM (List.replicate q v))):=by
 have hlr:(eM (List.replicate q v)).length=q*4:=by rw[dI,pV]
 refine⟨by unfold splice;simp only[jO,kC,G5,hlr];omega,fun i hi=>?_⟩;unfold splice;rw[jT v _ _ hi];by_cases uU:i<k*4
 ·rw[yV (by rw[kC];omega),List.getElem?_take,if_pos uU,hc i uU,jT v _ _ uU]
 ·rw[DK (by rw[kC];omega),kC,Nat.min_eq_left (by omega),yV (by rw[hlr];omega),jT v _ _ (by omega)]
  rw[show(i-k*4) % 4=i % 4 from by omega]
theorem ZZ.all{cur:List Value}(hl:cur.length=n*4)(h:ZZ v n cur):cur=eM (List.replicate n v):=by
 apply List.ext_getElem?;intro i;by_cases hi:i<n*4
 ·exact h i hi
 ·rw[List.getElem?_eq_none (by omega),List.getElem?_eq_none (by rw[dI,pV];omega)]
theorem U8(v:Rv)(b:Nat)(n:Nat)(w:Wo)(hv:aD w b 87 #[.bool v.b1,.slice v.A v.n v.c,.bool v.b2,.slice v.A2 v.m v.d])(hn:n<=1000):Calls Tryz.prog 94 #[.slice (some ⟨b,0,none⟩) 1 1,.int .i64 n] w fun e w'=>∃g,e=.returned (.slice (some ⟨g,0,none⟩) n n)/\w.heap.size<=g/\aD w' g 87 (eM (List.replicate n v)).toArray/\Below w.heap.size w w':=by
 have NB:=hv.lt;have tO:∀w:World,(Instr.makeSlice 96 (.int .i64 (n:Int)) (.int .i64 (n:Int))).run Tryz.prog w=.ok (.slice (some ⟨w.heap.size,0,none⟩) n n) (w.alloc (.cells (eM (List.replicate n sD)).toArray 87)):=fun w=>AT n (by omega) w;have HHV:=lH hv;clear hv;go_enter Tryz.func94,Tryz.ntmps94
 go_wp2_with fail
 refine(OS 1 n (by omega) (by omega) _).mono ?_;rw[show(1*n / 18446744073709551616:Nat)=0 from by omega,show(1*n % 18446744073709551616:Nat)=n from by omega];rintro e w' ⟨rfl,rfl⟩;have TU:=vM w (.cells (eM (List.replicate n sD)).toArray 87);have eA:(w.alloc (.cells (eM (List.replicate n sD)).toArray 87)).heap[w.heap.size]?=some (.cells (eM (List.replicate n sD)).toArray 87 (0,0)):=heap_alloc_new w _;obtain⟨cI,aFY,aOR⟩:=eR TU eA (HHV.o.below TU NB);have aFt:Hid (∀j u,(eM (List.replicate (Nat.min 1 n) v))[j]?=some u->(w.alloc (.cells (eM (List.replicate n sD)).toArray 87)).cell? ((⟨b,0,none⟩:Addr).add j)=some u):=lH fun j u hu=>by
  have hj:=(c_.1 hu).1;rw[dI,pV] at hj;have hm:Nat.min 1 n<=1:=Nat.min_le_left _ _;rw[jT v _ _ (by omega)] at hu;rw[Addr.add_lit,Nat.zero_add,aOR.o.cell j];have hj4:j % 4=j:=by omega
  rw[hj4] at hu;simpa[Rv.cells] using hu
 have hml:(eM (List.replicate n sD)).length=n*4:=by rw[dI,pV]
 have P1:=lH hml;have aEz:Nat.min 1 n<=n:=Nat.min_le_right _ _;have XN:0<n->0<Nat.min 1 n:=fun h=>Nat.lt_min.2 ⟨by decide,h⟩;clear TU eA hml
 go_wp2_with (refine E8 rfl (.tmp 31) (.tmp 32) 96 96 rfl 87 4 Tryz.underlying96 II ⟨b,0,none⟩ n n 1 1 w.heap.size 0 rfl rfl (eM (List.replicate n sD)) 87 aFY.o (eM (List.replicate (Nat.min 1 n) v)) (by rw[dI,pV]) aFt.o (by rw[dI,pV,P1.o];omega) (xQ _) w.heap.size w cI.o lR ?_)
 intro w2 bV k2;have pX:=AE (v:=v) (k:=0) (q:=Nat.min 1 n) (n:=n) P1.o (fun i hi=>by omega) (by omega);rw[Nat.zero_mul,Nat.zero_add] at pX;generalize splice (eM (List.replicate n sD)) 0 (eM (List.replicate (Nat.min 1 n) v))=cur0 at bV pX;obtain⟨dB,rN,TA⟩:=eR bV.out k2 pX;clear bV k2 pX tO;generalize Nat.min 1 n=k0 at *
 go_wp2_with fail
 go_loopw [8] (fun i wr=>∃k:Nat,k<=n/\i=.int .i64 k/\(0<n->0<k)/\Below w.heap.size w wr/\∃cur:List Value,cur.length=n*4/\ZZ v k cur/\Hid (wr.heap[w.heap.size]?=some (.cells cur.toArray 87 (0,0)))) (fun i _=>n-(intOf i).toNat)
 case atStart=>exact⟨k0,aEz,rfl,XN,rN.o,cur0,TA.o.1,TA.o.2,dB⟩
 case round=>
  obtain⟨k,hk,rfl,hkp,X4,cur,uV,X0,eA⟩:=hrel;obtain⟨HCI,kB,HCL⟩:=eR X0 X4 uV;clear X0 X4 uV;by_cases aR:k<n
  ·have aIh:0<k:=hkp (by omega)
   clear hkp;have Z8:Hid (∀j u,(eM (List.replicate (Nat.min k (n-k)) v))[j]?=some u->wr.drew.cell? ((⟨w.heap.size,0,none⟩:Addr).add j)=some u):=lH fun j u hu=>by
    have hj:=(c_.1 hu).1;rw[dI,pV] at hj;have hm:Nat.min k (n-k)<=k:=Nat.min_le_left _ _;rw[jT v _ _ hj,<-jT v k _ (by omega),<-HCI.o j (by omega)] at hu;have h2:=cell_of_row wr w.heap.size j cur.toArray 87 (0,0) eA.out;rw[Addr.add_lit,Nat.zero_add];show wr.cell? _=_;rw[h2];simpa using hu
   have hI1:(k:Int)<=(n:Int):=by omega
   have hI2:=lZ k;have aMg:Nat.min k (n-k)<=n-k:=Nat.min_le_right _ _;have aEx:0<Nat.min k (n-k):=Nat.lt_min.2 ⟨aIh,by omega⟩;have hw1:IntKind.i64.wrap ((k:Int)+((Nat.min k (n-k):Nat):Int))=(k:Int)+((Nat.min k (n-k):Nat):Int):=IntWalk.i64_in _ (by omega);(go_wp2_with fail)
   go_region_law (refine LV 45 rfl rfl (.tmp 41) (.tmp 44) 96 96 rfl 87 4 Tryz.underlying96 II ⟨w.heap.size,0,none⟩ (n-k) (n-k) k n w.heap.size (k*4) (by simp[Act.eval,Act.put];omega) (by simp[Act.eval,Act.put]) cur 87 eA.out (eM (List.replicate (Nat.min k (n-k)) v)) (by rw[dI,pV]) Z8.o (by rw[dI,pV,HCL.o];omega) (xQ _) w.heap.size w (aH kB.o) lR ?_;intro w3 eF k3)
   have hk3:=AE (v:=v) (k:=k) (q:=Nat.min k (n-k)) (n:=n) HCL.o HCI.o (by omega);obtain⟨KX,aFO,aFZ⟩:=eR hk3 k3 eF.out;have aEw:k+Nat.min k (n-k)<=n:=by omega
   clear hk3 k3 eF;generalize splice cur (k*4) (eM (List.replicate (Nat.min k (n-k)) v))=cur3 at *;generalize Nat.min k (n-k)=q at *;(go_wp2_with fail);go_roundw
   case rel=>exact⟨k+q,aEw,by go_num,fun _=>by omega,aFO.o,cur3,KX.o.1,KX.o.2,aFZ⟩
   case measure=>simp[intOf];omega
  ·have FX:k=n:=by omega
   subst FX;(go_wp2_with fail);go_ret;refine⟨w.heap.size,rfl,lR,?_,kB.o⟩;have:=eA.out;rw[HCI.o.all HCL.o] at this;exact this
def aNz(n:Nat)(w:Wo)(e:Ending)(w':Wo):Prop:=Below w.heap.size w w'/\∃(g:Nat)(v:Rv),e=.returned (.slice (some ⟨g,0,none⟩) n n)/\w.heap.size<=g/\aD w' g 87 (eM (List.replicate n v)).toArray/\cY w' w'.heap.size 0 v
theorem vU(n:Nat)(w:Wo)(hn:n<=1000):Calls Tryz.prog 57 #[.int .i64 n] w (aNz n w):=by
 go_enter Tryz.func57,Tryz.ntmps57
 go_wp2_with fail
 refine(oQ 0 w (by decide) (by decide)).mono ?_;rintro e w1 ⟨bG,v1,rfl,h1⟩;have cR:=lH bG;have H1:Hid (cY w1 w1.heap.size 0 v1):=lH (by have:=h1;rwa[show(((0:Int)):Rat)=0 from rfl] at this);clear bG h1
 go_wp2_with fail
 have fP:=vM w1 (.cells #[.bool v1.b1,.slice v1.A v1.n v1.c,.bool v1.b2,.slice v1.A2 v1.m v1.d] 87);have G2:=bX cR fP;replace H1:=lH (H1.o.up fP);have HX:=lH (aD.new w1 87 #[.bool v1.b1,.slice v1.A v1.n v1.c,.bool v1.b2,.slice v1.A2 v1.m v1.d]);have HG:Hid (w.heap.size<=(w1.alloc (.cells #[.bool v1.b1,.slice v1.A v1.n v1.c,.bool v1.b2,.slice v1.A2 v1.m v1.d] 87)).heap.size):=lH G2.o.size;clear fP;refine(U8 v1 w1.heap.size n _ HX.o hn).mono ?_;rintro e w2 ⟨g,rfl,hg,xA,bV⟩;obtain⟨dB,H2,HK⟩:=eR (G2.o.trans (bV.mono HG.o)) (H1.o.up bV) xA;have hgw:w.heap.size<=g:=eN HG.o hg;clear bV xA hg
 go_wp2_with fail
 go_ret;exact⟨dB.o,g,v1,rfl,hgw,HK.o,H2.o⟩
theorem aB4{q:List Rat}(hq:q.length=n):(q++List.replicate n (0:Rat)).set (n+k) 1=q++l7 n k:=by
 unfold l7;rw[List.set_append_right _ _ (by omega),hq];congr 2
 omega
theorem aAW:∀x∈l7 n i,bM x+1<=3:=fun x hx=>by
 have:x=0\/x=1:=by
  unfold l7 at hx;rcases List.mem_or_eq_of_mem_set hx with h | h
  ·exact .inl (List.mem_replicate.1 h).2
  ·exact .inr h
 rcases this with h | h<;>rw[h]<;>decide+kernel
theorem O_{M:List (List Rat)}{b:Nat}(h:Bd b M)(hb:3<=b):Bd b (fD M):=fun a ha x hx=>by
 obtain⟨i,hi⟩:=List.mem_iff_getElem?.1 ha;obtain⟨row,hr⟩:∃row,M[i]?=some row:=eG (by have:=(c_.1 hi).1;rwa[fJ] at this);rw[rJ hr] at hi;injection hi with hi;rw[<-hi] at hx;rcases List.mem_append.1 hx with hx | hx
 ·exact h row (cS hr) x hx
 ·exact eN (aAW x hx) hb
section
variable {w w':Wo} {base g:Nat} {hs:List Mh} {L:List (List Rat)}
theorem hU.mat(o:hU w base g hs L):iD base g w w (.slice none 0 0) [] hs L:=⟨o,g9 _ _ _ _ _,bR⟩
end
structure yU (w:Wo) (base g n k:Nat) (hs:List Hd) (L:List (List Rat)):Prop where
 top:aD w g 96 (hs.map Hd.val).toArray
 len:hs.length=L.length
 gb:base<=g
 row:∀(i:Nat)(h:Hd)(q:List Rat),hs[i]?=some h->L[i]?=some q->hO w w.heap.size h.A h.n (if i<k then q.drop n else q)/\h.n<=h.c/\h.c<=maxLen/\(0<h.n->∃b off,h.A=some ⟨b,off,none⟩/\b≠g)
section
variable {w w':Wo} {base g n k:Nat} {hs:List Hd} {L:List (List Rat)}
theorem hU.cut{ms:List Mh}(o:hU w base g ms L):yU w base g n 0 (ms.map fun h=>⟨h.A,h.vs.length,h.c⟩) L:=by
 refine⟨?_,by rw[kJ,o.len],o.gb,fun i h q hh hq=>?_⟩
 ·rw[List.map_map];exact o.top
 ·rw[pL] at hh
  obtain⟨m,hm,rfl⟩:=Option.map_eq_some_iff.1 hh;have r:=o.row i m q hm hq;refine⟨?_,r.cap,r.cm,fun h0=>?_⟩
  ·rw[if_neg (by omega)]
   have:=r.rd;rwa[<-r.len] at this
  ·obtain⟨h1,h2,h3,_⟩:=r.lies (by rw[<-r.len];exact h0)
   exact⟨m.g,0,h1,h3⟩
theorem yU.up(o:yU w base g n k hs L)(hb:Below w.heap.size w w'):yU w' base g n k hs L:=
 ⟨o.top.bl hb,o.len,o.gb,fun i h q hh hq=>by
  obtain⟨h1,h2,h3,h4⟩:=o.row i h q hh hq;exact⟨(h1.below hb lR).more hb.size,h2,h3,h4⟩⟩
theorem yU.get(o:yU w base g n k hs L){q:List Rat}(hq:L[i]?=some q):∃h:Hd,hs[i]?=some h/\w.cell? ⟨g,i,none⟩=some (.slice h.A h.n h.c):=by
 obtain⟨h,hh⟩:∃h,hs[i]?=some h:=eG (by rw[o.len];exact(c_.1 hq).1);refine⟨h,hh,?_⟩;rw[o.top.cell,List.getElem?_toArray,pL,hh];rfl
theorem hO.drop{B m b off:Nat}{q:List Rat}(h:hO w B (some ⟨b,off,none⟩) m q)(hn:n<=m):hO w B (some ⟨b,off+n*4,none⟩) (m-n) (q.drop n):=by
 obtain⟨vs,h1,h2,h3,h4⟩:=h;refine⟨vs.drop n,by rw[G5,h1],by rw[G5,h2],⟨by rw[dI,G5,h1],fun h0=>?_⟩,fun i x v hx hv=>?_⟩
 ·obtain⟨b',off',e,aR,hc⟩:=h3.2 (by omega)
  injection e with e;injection e with e1 e2;subst e1;subst e2;refine⟨b,off+n*4,rfl,aR,fun j u hu=>?_⟩;have hd:eM vs=eM (vs.take n)++eM (vs.drop n):=by
   unfold eM;rw[<-List.flatMap_append,List.take_append_drop]
  have hu2:(eM vs)[n*4+j]?=some u:=by
   rw[hd,DK (by rw[dI,kC,h1];omega),dI,kC,h1,show n*4+j-min n m*4=j from by omega];exact hu
  have:=hc _ u hu2;rwa[<-Nat.add_assoc] at this
 ·rw[List.getElem?_drop] at hx hv
  exact h4 _ _ _ hx hv
theorem yU.step(o:yU w base g n k hs L){h h2:Hd}{q:List Rat}(hh:hs[k]?=some h)(hq:L[k]?=some q)(hr:hO w w.heap.size h2.A h2.n (q.drop n))(h1:h2.n<=h2.c)(h3:h2.c<=maxLen)(h4:0<h2.n->∃b off,h2.A=some ⟨b,off,none⟩/\b≠g):yU (w.setCell ⟨g,k,none⟩ (.slice h2.A h2.n h2.c)) base g n (k+1) (hs.set k h2) L:=by
 have hkl:=(c_.1 hh).1;have FV:∀{A:OA}{m:Nat}{p:List Rat},hO w w.heap.size A m p->(0<m->∃b off,A=some ⟨b,off,none⟩/\b≠g)->hO (w.setCell ⟨g,k,none⟩ (.slice h2.A h2.n h2.c)) (w.setCell ⟨g,k,none⟩ (.slice h2.A h2.n h2.c)).heap.size A m p:=fun{A m p} H hA=>by
  obtain⟨vs,a1,a2,a3,a4⟩:=H;refine⟨vs,a1,a2,⟨a3.1,fun hm=>?_⟩,fun i x v hx hv=>?_⟩
  ·obtain⟨b,off,e,aR,hc⟩:=a3.2 hm
   obtain⟨b',off',e',cK⟩:=hA hm;rw[e] at e';injection e' with e';injection e' with e1 e2;subst e1;refine⟨b,off,e,by simpa[World.setCell] using aR,fun j u hu=>?_⟩;rw[World.cell?_setCell_other _ _ _ _ (fun e=>cK (by injection e with e;exact e.symm))];exact hc j u hu
  ·have h0:bS w w.heap.size x v.b1 v.A v.n v.c v.b2 v.A2 v.m v.d:=a4 i x v hx hv
   refine bS.keep h0 (v:=h.val) ?_ (fun a b e=>by simp[Hd.val] at e) _;rw[o.top.cell,List.getElem?_toArray,pL,hh];rfl
 refine⟨?_,by rw[jI,o.len],o.gb,fun i z p hz hp=>?_⟩
 ·have:=o.top.set_ k (.slice h2.A h2.n h2.c)
  rw[List.map_set];simpa[Hd.val] using this
 ·rw[List.getElem?_set] at hz
  by_cases uU:k=i
  ·subst uU
   rw[if_pos rfl,if_pos hkl] at hz;injection hz with hz;subst hz;rw[hq] at hp;injection hp with hp;subst hp;refine⟨?_,h1,h3,h4⟩;rw[if_pos (Nat.lt_succ_self _)];exact FV hr h4
  ·rw[if_neg uU] at hz
   obtain⟨a1,a2,a3,a4⟩:=o.row i z p hz hp;refine⟨?_,a2,a3,a4⟩;have e:(if i<k+1 then p.drop n else p)=if i<k then p.drop n else p:=by
    by_cases aR:i<k
    ·rw[if_pos aR,if_pos (by omega)]
    ·rw[if_neg aR,if_neg (by omega)]
   rw[e];exact FV a1 a4
theorem yU.rd(o:yU w base g n L.length hs L):lV w w.heap.size (some ⟨g,0,none⟩) L.length (L.map (List.drop n)):=by
 refine⟨hs,o.len,kJ _,⟨by simp[o.len],fun _=>⟨g,0,rfl,o.top.lt,fun j u hu=>?_⟩⟩,fun i h q hh hq=>?_⟩
 ·rw[Nat.zero_add,o.top.cell j,List.getElem?_toArray]
  exact hu
 ·rw[pL] at hq
  obtain⟨p,hp,rfl⟩:=Option.map_eq_some_iff.1 hq;obtain⟨a1,a2,a3,_⟩:=o.row i h p hh hp;rw[if_pos (c_.1 hp).1] at a1;exact⟨a1,a2,a3⟩
end
def aFg(M:List (List Rat))(w:Wo)(e:Ending)(w':Wo):Prop:=Below w.heap.size w w'/\(((jK (fD M) M.length).2.length<M.length/\e=.returned (.tuple #[.slice none 0 0,.bool false]))\/
 (¬(jK (fD M) M.length).2.length<M.length/\∃g,e=.returned (.tuple #[.slice (some ⟨g,0,none⟩) M.length M.length,.bool true])/\w.heap.size<=g/\lV w' w'.heap.size (some ⟨g,0,none⟩) M.length ((jK (fD M) M.length).1.map (List.drop M.length))))
theorem T5(hb:aD w g 87 (eM (List.replicate n v)).toArray):Rd w w.heap.size 4 (some ⟨g,0,none⟩) n (eM (List.replicate n v)):=
 ⟨by rw[dI,pV],fun _=>⟨g,0,rfl,hb.lt,fun j u hu=>by rw[Nat.zero_add,hb.cell j];simpa using hu⟩⟩
theorem U9(h:cY w w.heap.size q v):iW w (List.replicate n v) (List.replicate n q):=fun i p x hp hx=>by
 rw[List.getElem?_replicate] at hp hx;split at hp
 ·rename_i hi
  rw[if_pos hi] at hx;injection hp with hp;injection hx with hx;subst hp;subst hx;exact h
 ·cases hp
theorem iW.app{vs us:List Rv}{ps qs:List Rat}(h:iW w vs ps)(h2:iW w us qs)(hl:vs.length=ps.length):iW w (vs++us) (ps++qs):=fun i q v hq hv=>by
 by_cases hi:i<ps.length
 ·rw[yV hi] at hq
  rw[yV (by omega)] at hv;exact h i q v hq hv
 ·rw[DK (by omega)] at hq
  rw[DK (by omega),hl] at hv;exact h2 _ q v hq hv
theorem aBb(a b:List Rv):eM (a++b)=eM a++eM b:=by unfold eM;rw[List.flatMap_append]
theorem RL(A:OA)(n c b:Nat)(M:List (List Rat))(w:Wo)(hR:lV w w.heap.size A n M)(hn:n<=1000)(hw:∀a∈M,a.length=n)(DA:Bd b M)(eF:3<=b)(gP:4^n*b<=4000000000000):Calls Tryz.prog 122 #[.slice A n c] w (aFg M w):=by
 obtain⟨HR,HL,HWD⟩:=eR hR hR.len hw;have HEW:Hid (∀a∈fD M,a.length=n+n):=lH (by have h:=hR.len;have:=qO (M:=M) (by rw[h];exact hw);rwa[h] at this);have HEB:=lH (O_ DA eF);have B9:=lH gP;obtain⟨i0,jL,pF,kT,kS⟩:=jW;obtain⟨yT,xK,CE,CD⟩:=gO jL pF kT kS;clear hR hw jL pF kT kS DA eF gP;have tO:∀w:World,(Instr.makeSlice 129 (.int .i64 (n:Int)) (.int .i64 (n:Int))).run Tryz.prog w=.ok (.slice (some ⟨w.heap.size,0,none⟩) n n) (w.alloc (.cells (fU n) 96)):=fun w=>wS n (by omega) w;have HK:=lH ((Below.refl w.heap.size w).alloc lR (.cells (fU n) 96));have HG:=lH (aD.new w 96 (fU n));go_enter Tryz.func122,Tryz.ntmps122
 go_wp2_with fail
 clear tO;generalize w.alloc (.cells (fU n) 96)=W at *;have HO:=lH (wN HG.o lR);generalize hg:w.heap.size=g at *;have kZ:=lH hg;clear hg HG
 go_loopw [16] (fun v16 wr=>∃(k:Nat)(hs:List Mh),k<=n/\v16=.int .i64 k/\Below g w wr/\hU wr g g hs ((fD M).take k++List.replicate (n-k) [])) (fun v16 _=>n-(intOf v16).toNat)
 case atStart=>exact⟨0,_,by omega,rfl,HK.o,by rw[List.take_zero,List.nil_append,Nat.sub_zero];exact HO.o⟩
 case round=>
  clear HK HO;obtain⟨k,hs,hk,rfl,hb,ho⟩:=hrel;have HK:=lH hb;have HO:=lH ho;clear hb ho;by_cases aR:k<n
  ·obtain⟨q,hq⟩:∃q,M[k]?=some q:=eG (by have:=HL.o;omega)
   obtain⟨b0,o,hA,hb⟩:=(HR.o.below HK.o (by have:=kZ.o;omega)).form (by omega);subst hA;obtain⟨h,hc,hrq,hh1,TR⟩:=(HR.o.below HK.o (by have:=kZ.o;omega)).at_ hq;have p_:Hid (g<wr.heap.size):=lH HO.o.top.lt;have HRQ:=lH (hrq.more (B':=wr.heap.size) (by have:=kZ.o;have:=p_.o;omega));have pT:Hid (q.length=n):=lH (HWD.o q (cS hq));have HXQ:=lH (rJ hq);rw[HL.o] at HXQ;have HF:Hid (((fD M).take k++List.replicate (n-k) []).set k (q++l7 n k)=(fD M).take (k+1)++List.replicate (n-(k+1)) []):=lH (BN (by rw[fJ,HL.o]) HXQ.o);have iM:(k:Int)<(n:Int):=by omega
   have gB:=lN k;have e_:Hid (n-(k+1)<n-k):=lH (by omega);have nG:b0<wr.heap.size:=by have:=HK.o.size;have:=kZ.o;omega
   obtain⟨vs,lD,jG,nB,nF⟩:=DS HRQ.o;obtain⟨hA0,kV,EH⟩:=h;simp only at hc lD jG nB nF hh1 TR;have aMd:kV=n:=by have:=pT.o;omega
   subst aMd;obtain⟨mM,DF,LE⟩:=eR lD nB nF;clear lD jG nB nF hq hrq hb HR
   go_wp2_with (at_builtin;refine mT (S:=tQ) rfl (.const (.slice none 0 0)) (.tmp 24) _ rfl g 87 i0 _ 4 64 Tryz.underlying96 yT.o xK.o CE.o CD.o rfl (by omega) qA (.slice none 0 0) 0 [] rfl (g9 _ _ _ _ _) hA0 kV EH (eM vs) rfl DF.o (tU vs) ?k1 ?k2 ?k3 ?_)
   case k1=>simp only[maxLen];omega
   case k2=>omega
   case k3=>have:=p_.o;omega
   intro v' w6 bB pI eE RX eA;have d6:=lH eE;have aJS:=lH RX;clear bB pI eE RX eA hc;(go_wp2_with fail);refine(vU kV w6 hn).mono ?_;rintro e w7 ⟨fR,gz,vz,rfl,hgz,R6,hvz⟩;obtain⟨gN,aJR,HZR,HVZ⟩:=gO fR (aJS.o.keep fR) (T5 R6) hvz;have HV7:Hid (iW w7 vs q):=lH (iW.up (w:=w6) (iW.up (w:=wr) LE.o d6.o) fR);have HBS:Hid (wr.heap.size<=w7.heap.size):=lH (eN d6.o.size fR.size);clear fR R6 hvz hgz aJS
   go_wp2_with (at_builtin;refine mT (S:=tQ) rfl (.tmp 25) (.tmp 27) _ rfl wr.heap.size 87 i0 _ 4 64 Tryz.underlying96 yT.o xK.o CE.o CD.o rfl (by omega) qA v' kV (eM vs) rfl aJR.o (some ⟨gz,0,none⟩) kV kV (eM (List.replicate kV vz)) rfl HZR.o (tU _) ?k1 ?k2 ?k3 ?_)
   case k1=>simp only[maxLen];omega
   case k2=>omega
   case k3=>exact HBS.o
   intro v2 w8 hown8 hkeep8 hnil8 hblk8;have hX:Hid (Below wr.heap.size wr w8):=lH (d6.o.trans ((gN.o.mono d6.o.size).trans hkeep8.low));have HOQ:Hid (dD w8 wr.heap.size v2 (vs++List.replicate kV vz) (q++List.replicate kV 0)):=lH (by
    refine⟨?_,?_,?_⟩
    ·rw[jO,pV,mM.o,aBb];exact hown8
    ·rw[jO,jO,pV,pV,mM.o,pT.o]
    ·refine iW.app (fun i p x hp hx=>?_) (U9 (cY.keeps HVZ.o hkeep8)) (by rw[mM.o,pT.o])
     exact cY.keeps (HV7.o i p x hp hx) hkeep8)
   obtain⟨h2,hv,hvs,kY⟩:=I3 (w':=w8) (g:=g) HOQ.o p_.o;subst hv;have m9:=lH (kY.mono (base':=g) (qY p_.o));have vQ:=lH (HK.o.trans (hX.o.mono (qY p_.o)));have GZ:=lH (HO.o.up hX.o);have TD:Hid (∀j (h':Mh),j≠k->hs[j]?=some h'->0<h'.vs.length->0<h2.vs.length->h'.g≠h2.g):=lH fun j h' _ hh l1 l2=>by
    have h3:=HO.o.lt hh l1;have h4:=(kY.lies (by rw[<-kY.len];exact l2)).2.1;omega
   clear hown8 hkeep8 hnil8 hblk8 hvs kY HK HO HOQ HV7 HVZ HZR aJR d6 gN DF LE HBS;have aFB:(q++List.replicate kV (0:Rat)).length=kV+kV:=by rw[jO,pV,pT.o]
   have aCz:=lH aFB;have gl:=GZ.o.top.lt;have gf:=GZ.o.top.frozen;have HKL:Hid (k<(((fD M).take k++List.replicate (kV-k) []):List (List Rat)).length):=lH (by simp;have:=HL.o;have:=fJ M;omega);obtain⟨gv,gc⟩:∃gv,w8.cell? ⟨g,k,none⟩=some gv:=by
    rw[GZ.o.top.cell];exact⟨_,Array.getElem?_eq_getElem (by rw[List.size_toArray,kJ,GZ.o.len];exact HKL.o)⟩
   have T2:=lH (GZ.o.setRow HKL.o m9.o TD.o);have eU:Hid (Below g w (w8.setCell ⟨g,k,none⟩ (.slice h2.A (q++List.replicate kV (0:Rat)).length h2.c))):=lH (vQ.o.setCell lR _);rw[aFB] at T2 eU ⊢;clear aFB;(go_upto_region 7 with fail);clear gl gf gc;generalize w8.setCell ⟨g,k,none⟩ (.slice h2.A (kV+kV) h2.c)=w9 at *;have HQ9:Hid ((((fD M).take k++List.replicate (kV-k) []).set k (q++List.replicate kV 0))[k]?=some (q++List.replicate kV 0)):=lH (by rw[List.getElem?_set,if_pos rfl,if_pos HKL.o]);have fO:Hid ((((fD M).take k++List.replicate (kV-k) []).set k (q++List.replicate kV 0)).set k ((q++List.replicate kV 0).set (kV+k) 1)=(fD M).take (k+1)++List.replicate (kV-(k+1)) []):=lH (by rw[List.set_set,aB4 pT.o,HF.o]);generalize (((fD M).take k++List.replicate (kV-k) []).set k (q++List.replicate kV 0))=L9 at *;generalize q++List.replicate kV (0:Rat)=q9 at *;generalize hs.set k h2=MU at *;obtain⟨gg,cc,vs9,x9,hh9,c,hx9,c0,c1,c2,c3,hv9,l1,f1,cK⟩:=T2.o.mat.elem (i:=k) (j:=kV+k) HQ9.o (by rw[aCz.o];omega);rw[aCz.o] at c;have HH:=lH hh9;have HX:=lH hx9;have gl:=T2.o.top.lt;have bH:=lH (aH (Below.refl w9.heap.size w9));clear hh9 hx9 hv9 HF HXQ m9 TD HKL vQ GZ mM hX;obtain⟨m,hm⟩:∃m:Nat,m=kV+k:=⟨_,rfl⟩;rw[<-hm] at c0 c1 c2 c3 HX fO;have HM:=lH hm;have hw1:IntKind.i64.wrap (m:Int)=(m:Int):=IntWalk.i64_in _ (by omega);have hw2:(kV:Int)+(k:Int)=(m:Int):=by omega
   have TP:m<kV+kV:=by omega
   have hm3:(m:Int)<((kV+kV:Nat):Int):=by omega
   have pX:=lZ k;have MZ:=lZ m;have hmn:=oL m;generalize kV+kV=n2 at *;clear hm;refine rS 9 (fun hHeld=>?_);simp only[oO,List.take_zero];refine d7 [0,1,2,3,4,5,6] ?_;refine bI 7 (fun K hK=>?_);go_simp;refine(oQ 1 w9.drew (by decide) (by decide)).mono ?_;rintro e w10 ⟨F0,v10,rfl,h10⟩;have TG:Hid (Below w9.heap.size w9 w10):=lH (bH.o.trans F0);have H10:=lH h10;clear F0 h10;go_simp;refine iJ hK TG.o (fun hHeld=>?_);clear hK K;refine d7 [8] ?_;refine fZ ?_;clear hHeld;have aFJ:=lH (T2.o.up TG.o);have TF:=lH (eU.o.trans (TG.o.mono (by have:=eU.o.size;have:=kZ.o;omega)));clear c c0 c1 c2 c3 l1 f1 cK gl T2 eU;obtain⟨c0,c1,c2,c3,l1,f1⟩:=aFJ.o.mat.elem2 HH.o HQ9.o HX.o;(go_wp2_with fail);go_roundw
   case rel=>exact⟨k+1,_,aR,aM gB.o,iU TF.o (by
       obtain⟨h1,h2,-⟩:=(aFJ.o.row k _ q9 HH.o HQ9.o).lies (by rw[aCz.o];omega);exact h2),by
       rw[<-fO.o];exact aFJ.o.put HH.o HQ9.o (by rw[aCz.o];exact TP) H10.o⟩
   case measure=>exact e_.o
  ·have pP:k=n:=by omega
   subst pP;have iM:¬(k:Int)<(k:Int):=by omega
   have HOX:Hid (hU wr g g hs (fD M)):=lH (by
    have h:=HO.o;rw[Nat.sub_self,List.replicate_zero,List.append_nil,oP (by rw[fJ,HL.o];exact lR)] at h;exact h)
   have HRX:Hid (lV wr wr.heap.size (some ⟨g,0,none⟩) k (fD M)):=lH (by have h:=HOX.o.rd;rwa[fJ,HL.o] at h);have PX:=lH (VC (some ⟨g,0,none⟩) k k k (k+k) b (fD M) wr HRX.o (by omega) HEW.o (by omega) (by omega) HEB.o B9.o);have cL:=lH (zC (M:=fD M) (N:=k+k) (cols:=k) HEW.o (by omega));clear HRX HO HEB B9 HEW;(go_wp2_with fail);refine PX.o.mono ?_;rintro e w2 ⟨bV,g2,yI,v,rfl,ho2,hp⟩;obtain⟨pA,pc,hv,-,-⟩:=hp.shape;subst hv;have dB:=lH (HK.o.trans (bV.mono (by have:=HK.o.size;have:=kZ.o;omega)));have K2:=lH (ho2.cut (n:=k));have HGG:Hid (g<=wr.heap.size):=lH (by have:=HK.o.size;have:=kZ.o;omega);rw[show(fD M).length=k from by rw[fJ,HL.o]];have KY:Hid (∀(e:Ending)(w':Wo),Below w.heap.size w w'->(((jK (fD M) k).2.length<k/\e=.returned (.tuple #[.slice none 0 0,.bool false]))\/(¬(jK (fD M) k).2.length<k/\∃g,e=.returned (.tuple #[.slice (some ⟨g,0,none⟩) k k,.bool true])/\w.heap.size<=g/\lV w' w'.heap.size (some ⟨g,0,none⟩) k ((jK (fD M) k).1.map (List.drop k))))->aFg M w e w'):=lH fun e w' h1 h2=>by
    unfold aFg;rw[HL.o];exact⟨h1,h2⟩
   have nD:Hid ((jK (fD M) k).1.length=k):=lH (by rw[cL.o.len,fJ,HL.o]);have HLW:=lH cL.o.wid;clear bV ho2 hp PX cL HOX HK;generalize (jK (fD M) k).1=L at *;generalize (jK (fD M) k).2.length=pl at *;by_cases tN:pl<k
   ·have aL6:(pl:Int)<(k:Int):=by omega
    (go_wp2_with fail);go_ret2;exact KY.o _ _ (by rw[kZ.o];exact dB.o) (.inl ⟨tN,rfl⟩)
   ·have aL6:¬(pl:Int)<(k:Int):=by omega
    (go_wp2_with fail);generalize yI.map (fun h=>(⟨h.A,h.vs.length,h.c⟩:Hd))=hs3 at *
    go_loopw [52] (fun v52 wq=>∃(i:Nat)(hs:List Hd),i<=k/\v52=.int .i64 i/\Below g w wq/\yU wq wr.heap.size g2 k i hs L) (fun v52 _=>k-(intOf v52).toNat)
    case atStart=>exact⟨0,hs3,by omega,rfl,dB.o,K2.o⟩
    case round=>
     clear dB K2;obtain⟨i,hsi,hi,rfl,hb,hc⟩:=hrel;have HB:=lH hb;have HC:=lH hc;clear hb hc;by_cases aR:i<k
     ·obtain⟨q,hq⟩:∃q,L[i]?=some q:=eG (by have:=nD.o;omega)
      obtain⟨h,hh,c⟩:=HC.o.get hq;obtain⟨r1,r2,r3,r4⟩:=HC.o.row i h q hh hq;rw[if_neg (by omega)] at r1;have hhn:h.n=k+k:=by rw[<-r1.len];exact HLW.o q (cS hq)
      obtain⟨hA,LA,hc2⟩:=h;simp only at c r1 r2 r3 r4 hhn;subst hhn;obtain⟨b2,o2,R_,JD⟩:=r4 (by omega);subst R_;have nI:=lH (r1.drop (n:=k) (by omega));have HHH:=lH hh;have HQQ:=lH hq;have gl:=HC.o.top.lt;have gf:=HC.o.top.frozen;have CZ:(i:Int)<(k:Int):=by omega
      have gB:=lN i;have e_:Hid (k-(i+1)<k-i):=lH (by omega);clear r1 r4 hh hq;have pX:0<k:=by omega
      have hkc:¬hc2=k:=by omega
      have hki:(k:Int)<=((k+k:Nat):Int):=by omega
      have hkz:=lZ k;have M8:(k:Int)<=(hc2:Int):=by omega
      have aTH:((k+k:Nat):Int)<=(hc2:Int):=by omega
      have hkt:=oL k;rw[show k+k-k=k from by omega] at nI;have qU:Hid (k<=hc2-k/\hc2-k<=maxLen):=lH (by omega);have OX:k+k-k=k:=by omega
      (go_wp2_with fail);go_roundw
      case rel=>exact⟨i+1,_,aR,aM gB.o,HB.o.setCell (eN HGG.o HC.o.gb) _,HC.o.step (h2:=⟨some ⟨b2,o2+k*4,none⟩,k,hc2-k⟩) HHH.o HQQ.o nI.o qU.o.1 qU.o.2 (fun _=>⟨_,_,rfl,JD⟩)⟩
      case measure=>exact e_.o
     ·have RZ:i=k:=by omega
      subst RZ;have CZ:¬(i:Int)<(i:Int):=by omega
      (go_wp2_with fail);go_ret2;exact KY.o _ _ (by rw[kZ.o];exact HB.o) (.inr ⟨tN,g2,rfl,by rw[kZ.o];exact eN HGG.o HC.o.gb,by have h:=HC.o;rw[<-nD.o] at h;have h2:=h.rd;rwa[nD.o] at h2⟩)
def gD(b:Br):Rat:=Rat.divInt 1000000 (b.x*b.tap)
def mS(b:Br):Rat:=gD b*Rat.divInt (-b.shift) 1000
def dN(x:bP):List Nat:=(mQ x).map Int.toNat
def aG(x:bP):List Nat:=iB (dG (dN x)) (aN x)
def jB(x:bP):List Nat:=(GA x).map Prod.fst
def FQ(x:bP):List Nat:=(GA x).map Prod.snd
def mB(x:bP):List Rat:=x.brs.map gD
def mC(x:bP):List Rat:=x.brs.map mS
def dY(A:List (List Rat))(i j:Nat)(q:Rat):List (List Rat):=A.set i ((A.getD i []).set j (vf (A.getD i []) j+q))
def wK(free:List Nat)(u:Nat):Option Nat:=free.findIdx? (· == u)
def eX(free:List Nat)(A:List (List Rat))(b:Rat)(u v:Nat):List (List Rat):=
 if u=v then A else
  match wK free u,wK free v with
  | none,none=>A
  | some i,none=>dY A i i b
  | none,some j=>dY A j j b
  | some i,some j=>dY (dY (dY (dY A i i b) j j b) i j (-b)) j i (-b)
def sH(free:List Nat):List Rat->List Nat->List Nat->List (List Rat)->List (List Rat)
 | b::bs,u::us,v::vs,A=>sH free bs us vs (eX free A b u v)
 | _,_,_,A=>A
def qS(n:Nat):List (List Rat):=List.replicate n (List.replicate n 0)
def kR(x:bP):List (List Rat):=sH (aG x) (mB x) (jB x) (FQ x) (qS (aG x).length)
def rT(x:bP):List (List Rat):=(jK (fD (kR x)) (aG x).length).1.map (List.drop (aG x).length)
def RJ(x:bP):Prop:=¬(jK (fD (kR x)) (aG x).length).2.length<(aG x).length
theorem E3{A:List (List Rat)}:(dY A i j q).length=A.length:=by unfold dY;rw[jI]
theorem fM{A:List (List Rat)}{a:List Rat}(h:A[i]?=some a):dY A i j q=A.set i (a.set j (vf a j+q)):=by
 unfold dY;rw[dQ,h];rfl
theorem E2{A:List (List Rat)}(h:∀a∈A,a.length=n)(hi:i<A.length):∀a∈dY A i j q,a.length=n:=fun a ha=>by
 obtain⟨r,hr⟩:∃r,A[i]?=some r:=⟨_,jP hi⟩;rw[fM hr] at ha;rcases List.mem_or_eq_of_mem_set ha with h1 | h1
 ·exact h a h1
 ·rw[h1,jI];exact h r (cS hr)
theorem ZT{A:List (List Rat)}(h:Bd K A)(hi:i<A.length)(hw:∀a∈A,a.length=n)(hj:j<n)(hq:bM q<=1):Bd (K+2) (dY A i j q):=fun a ha x hx=>by
 obtain⟨r,hr⟩:∃r,A[i]?=some r:=⟨_,jP hi⟩;rw[fM hr] at ha;rcases List.mem_or_eq_of_mem_set ha with h1 | h1
 ·exact eN (h a h1 x hx) (by omega)
 ·rw[h1] at hx
  rcases List.mem_or_eq_of_mem_set hx with h2 | h2
  ·exact eN (h r (cS hr) x h2) (by omega)
  ·have h3:=h.vf hr (j:=j) (by rw[hw r (cS hr)];exact hj)
   have h4:=lI (vf r j) q;rw[h2];omega
theorem dF(h:wK free u=some i):i<free.length/\free[i]?=some u:=by
 unfold wK at h;rw[List.findIdx?_eq_some_iff_getElem] at h;obtain⟨h1,h2,_⟩:=h;refine⟨h1,?_⟩;rw[jP h1];simpa using h2
theorem aD7{v:Nat}(h:wK free u=some i)(h2:wK free v=some j)(cK:u≠v):i≠j:=by
 rintro rfl;have a:=(dF h).2;have b:=(dF h2).2;rw[a] at b;injection b with b;exact cK b
structure fE (n K:Nat) (A:List (List Rat)):Prop where
 len:A.length=n
 wid:∀a∈A,a.length=n
 bd:Bd K A
theorem fE.add{A:List (List Rat)}(h:fE n K A)(hi:i<n)(hj:j<n)(hq:bM q<=1):fE n (K+2) (dY A i j q):=
 ⟨E3.trans h.len,E2 h.wid (by rw[h.len];exact hi),ZT h.bd (by rw[h.len];exact hi) h.wid hj hq⟩
theorem fE.mono{K':Nat}{A:List (List Rat)}(h:fE n K A)(hk:K<=K'):fE n K' A:=⟨h.len,h.wid,h.bd.mono hk⟩
theorem tC{v:Nat}{A:List (List Rat)}{b:Rat}(h:fE free.length K A)(hb:bM b<=1):fE free.length (K+8) (eX free A b u v):=by
 unfold eX;split
 ·exact h.mono (by omega)
 ·cases h1:wK free u with
  | none=>
   cases h2:wK free v with
   | none=>exact h.mono (by omega)
   | some j=>exact(h.add (dF h2).1 (dF h2).1 hb).mono (by omega)
  | some i=>
   cases h2:wK free v with
   | none=>exact(h.add (dF h1).1 (dF h1).1 hb).mono (by omega)
   | some j=>
    have a1:=h.add (dF h1).1 (dF h1).1 hb;have a2:=a1.add (dF h2).1 (dF h2).1 hb;have a3:=a2.add (dF h1).1 (dF h2).1 (q:=-b) (by rw[kG];exact hb);exact(a3.add (dF h2).1 (dF h1).1 (q:=-b) (by rw[kG];exact hb)).mono (by omega)
theorem zP(n:Nat):fE n 3 (qS n):=by
 unfold qS;refine⟨pV,fun a ha=>by rw[(List.mem_replicate.1 ha).2,pV],fun a ha x hx=>?_⟩;rw[(List.mem_replicate.1 ha).2] at hx;rw[(List.mem_replicate.1 hx).2];decide+kernel
theorem oR{b:Br}(h:b.bad=false):bM (gD b)<=1:=by
 have h1:1<=b.x/\b.x<=10000/\500<=b.tap/\b.tap<=1500:=by
  unfold Br.bad at h;simp only[Bool.or_eq_false_iff] at h;obtain⟨⟨⟨⟨⟨a1,a2⟩,_⟩,_⟩,_⟩,_⟩:=h;unfold iR at a1 a2;have:=of_decide_eq_false a1;have:=of_decide_eq_false a2;omega
 obtain⟨k,hk⟩:∃k:Nat,b.x*b.tap=(k:Int):=⟨(b.x*b.tap).toNat,(Int.toNat_of_nonneg (Int.mul_nonneg (by omega) (by omega))).symm⟩;have M4:b.x*b.tap<=10000*1500:=Int.mul_le_mul h1.2.1 h1.2.2.2 (by omega) (by omega);have yK:1*500<=b.x*b.tap:=Int.mul_le_mul h1.1 h1.2.2.1 (by omega) (by omega);have pX:k≠0:=by omega
 unfold gD bM;rw[hk,(lL 1000000 pX).2,(q_ 1000000 pX).1];refine Nat.max_le.2 ⟨gI ?_,gI ?_⟩
 ·refine zT_ (Nat.div_le_self ..) ?_
  show _<4294967296^1;decide
 ·refine zT_ (Nat.div_le_self ..) ?_
  show _<4294967296^1;omega
theorem RQ(A:OA)(n c:Nat)(zs:List Int)(z:Int)(w:Wo)(hr:oA w w.heap.size A n zs)(hn:n<=9223372036854775807):Calls Tryz.prog 102 #[.slice A n c,.int .i64 z] w fun e w'=>e=.returned (.int .i64 (eP (fun x=>decide (z=x)) zs 0))/\w=w':=by
 have d5:=lH hr.len;go_enter Tryz.func102,Tryz.ntmps102
 go_wp2_with fail
 go_loop [5,8] (fun _ i=>∃k:Nat,k<=n/\i=.int .i64 k/\eP (fun x=>decide (z=x)) zs 0=eP (fun x=>decide (z=x)) (zs.drop k) k) (fun _ i=>n-(intOf i).toNat)
 case atStart=>exact⟨0,by omega,rfl,rfl⟩
 case round=>
  obtain⟨k,hk,rfl,BE⟩:=hrel;have CC:=lH BE;clear BE;by_cases aR:k<n
  ·obtain⟨y,hy⟩:∃y,zs[k]?=some y:=eG (by have:=d5.out;omega)
   obtain⟨b,off,rfl,NB,-⟩:=hr.2 (by omega);have gH:=hr.at_ hy;have HZ:=lH (bW hy);clear hy;by_cases hp:z=y
   ·subst hp
    (go_wp2_with fail);go_ret;exact⟨aQ (by rw[CC.o,HZ.o];simp[eP]),rfl⟩
   ·have HP:=lH hp
    go_wp2_with fail
    go_round
    case rel=>exact⟨k+1,by omega,by go_num,by rw[CC.o,HZ.o];simp[eP,HP.o]⟩
    case measure=>simp[intOf];omega
  ·have hd:zs.drop k=[]:=by rw[List.drop_eq_nil_iff];have:=d5.out;omega
   have HD:=lH hd;clear hd;(go_wp2_with fail);go_ret;exact⟨aQ (by rw[CC.o,HD.o];rfl),rfl⟩
def wO(o:Option Nat):Int:=match o with | none=>-1 | some i=>(i:Int)
theorem RR(free:List Nat)(u:Nat):eP (fun x=>decide ((u:Int)=x)) (eV free) 0=wO (wK free u):=by
 have key:∀(l:List Nat)(k:Nat),eP (fun x=>decide ((u:Int)=x)) (eV l) k=wO ((l.findIdx? (· == u)).map (·+k)):=by
  intro l
  induction l with
  | nil=>intro k;rfl
  | cons a r ih=>
   intro k;rw[List.findIdx?_cons];show(if decide ((u:Int)=(a:Int)) then(k:Int) else eP _ (eV r) (k+1))=_;by_cases h:u=a
   ·subst h;simp[wO]
   ·have h1:¬((u:Int)=(a:Int)):=by omega
    have h2:(a == u)=false:=by simp;omega
    rw[decide_eq_false h1,ih (k+1),h2];simp only[Bool.false_eq_true,if_false];congr 1
    rw[Option.map_map];congr 1
    funext i
    simp;omega
 have:=key free 0;rw[this];unfold wK;congr 1
 cases free.findIdx? (· == u)<;>simp
structure jN where
 A0:OA
 n0:Nat
 c0:Nat
 A1:OA
 n1:Nat
 c1:Nat
 A2:OA
 n2:Nat
 c2:Nat
 A3:OA
 n3:Nat
 c3:Nat
 A4:OA
 n4:Nat
 c4:Nat
 A5:OA
 n5:Nat
 c5:Nat
 A6:OA
 n6:Nat
 c6:Nat
def jN.cells(m:jN)(v:Value):Array Value:=#[.slice m.A0 m.n0 m.c0,.slice m.A1 m.n1 m.c1,.slice m.A2 m.n2 m.c2,.slice m.A3 m.n3 m.c3,.slice m.A4 m.n4 m.c4,.slice m.A5 m.n5 m.c5,.slice m.A6 m.n6 m.c6,v]
structure fN (w:Wo) (B:Nat) (m:jN) (x:bP):Prop where
 r0:oA w B m.A0 m.n0 (gM x)
 r1:oA w B m.A1 m.n1 (mQ x)
 r2:oA w B m.A2 m.n2 (eV (jB x))
 r3:oA w B m.A3 m.n3 (eV (FQ x))
 r4:hO w B m.A4 m.n4 (mB x)
 r5:hO w B m.A5 m.n5 (mC x)
 r6:oA w B m.A6 m.n6 (eV (aG x))
section
variable {w w':Wo} {B B':Nat} {m:jN} {x:bP}
theorem fN.below(r:fN w B m x)(hb:Below B' w w')(h:B<=B'):fN w' B m x:=⟨r.r0.below hb h,r.r1.below hb h,r.r2.below hb h,r.r3.below hb h,r.r4.below hb h,r.r5.below hb h,r.r6.below hb h⟩
theorem fN.more(r:fN w B m x)(h:B<=B'):fN w B' m x:=⟨r.r0.more h,r.r1.more h,r.r2.more h,r.r3.more h,r.r4.more h,r.r5.more h,r.r6.more h⟩
theorem fN.up(r:fN w w.heap.size m x)(hb:Below w.heap.size w w'):fN w' w'.heap.size m x:=(r.below hb lR).more hb.size
end
theorem kO(l:List Nat):(eV l).length=l.length:=by unfold eV;rw[kJ]
theorem lC{l:List Nat}(h:l[i]?=some u):(eV l)[i]?=some (u:Int):=by unfold eV;rw[pL,h];rfl
theorem nS(x:bP):(jB x).length=x.brs.length:=by unfold jB GA;rw[kJ,kJ]
theorem uJ(x:bP):(FQ x).length=x.brs.length:=by unfold FQ GA;rw[kJ,kJ]
theorem wT(x:bP):(mB x).length=x.brs.length:=by unfold mB;rw[kJ]
theorem ML(x:bP):(mC x).length=x.brs.length:=by unfold mC;rw[kJ]
theorem Q4(g:Nat)(m:jN)(v:Value)(free:List Nat)(u:Nat)(w:Wo)(hb:aD w g 131 (m.cells v))(hr:oA w w.heap.size m.A6 m.n6 (eV free))(hn:m.n6<=9223372036854775807):Calls Tryz.prog 121 #[.pointer (some ⟨g,0,none⟩),.int .i64 (u:Int)] w fun e w'=>e=.returned (.int .i64 (wO (wK free u)))/\w=w':=by
 have c6:=hb.cell 6;have hl:=hb.lt;have HC:=lH (RQ m.A6 m.n6 m.c6 (eV free) (u:Int) w hr hn);rw[RR] at HC;obtain⟨A0,n0,c0,A1,n1,c1,A2,n2,c2,A3,n3,c3,A4,n4,c4,A5,n5,c5,A6,n6,k6⟩:=m;simp only[jN.cells] at c6 HC;clear hb hr;go_enter Tryz.func121,Tryz.ntmps121
 go_wp2_with fail
 refine HC.o.mono ?_;rintro e w' ⟨rfl,rfl⟩
 go_wp2_with fail
 go_ret;exact⟨rfl,rfl⟩
theorem aAR{base gz:Nat}(hb:aD w gz 87 (eM (List.replicate n v)).toArray)(hv:cY w w.heap.size 0 v)(h1:base<=gz)(h2:gz≠g)(hn:n<=1000000):pC w base g ⟨some ⟨gz,0,none⟩,gz,n,List.replicate n v⟩ (List.replicate n 0):=
 ⟨by simp,by simp,by simp only[maxLen];omega,U9 hv,fun _=>⟨rfl,h1,h2,_,hb,by rw[pV];show(eM (List.replicate n v)).take (n*4)=_;rw[oP (by rw[dI,pV];exact lR)]⟩⟩
theorem aAQ(hk:k<n):((qS n).take k++List.replicate (n-k) []).set k (List.replicate n 0)=(qS n).take (k+1)++List.replicate (n-(k+1)) []:=
 BN (by unfold qS;rw[pV]) (by unfold qS;rw[List.getElem?_replicate,if_pos hk])
theorem fN.bm{w':Wo}{m:jN}(r:fN w w.heap.size m x)(g:Below w.heap.size w w'):fN w' w'.heap.size m x:=(r.below g lR).more g.size
theorem sR{m:jN}{A:OA}{c:Nat}{u:Value}(h:(m.cells (.slice A n c))[i]?=some u):∃A' n' c',u=.slice A' n' c':=by
 have h2:u∈(m.cells (.slice A n c)).toList:=Array.mem_toList_iff.2 (Array.mem_of_getElem? h);simp only[jN.cells,List.mem_cons,List.not_mem_nil,or_false] at h2;rcases h2 with rfl | rfl | rfl | rfl | rfl | rfl | rfl | rfl<;>exact⟨_,_,_,rfl⟩
section
variable {w:Wo} {g T:Nat} {m:jN} {A:OA} {k c:Nat}
theorem oA.keepm{B:Nat}{zs:List Int}(h:oA w B A0 n zs)(hb:aD w g T (m.cells (.slice A k c)))(i:Nat)(u:Value):oA (w.setCell ⟨g,i,none⟩ u) B A0 n zs:=by
 refine⟨h.1,fun hn=>?_⟩;obtain⟨b,off,e,aR,hc⟩:=h.2 hn;refine⟨b,off,e,aR,fun j v hv=>?_⟩;have h1:=hc j v hv;rw[World.cell?_setCell_other]
 ·exact h1
 ·rintro e2
  injection e2 with e2;subst e2;rw[hb.cell] at h1;obtain⟨A',n',c',rfl⟩:=sR h1;unfold bK at hv;rw[pL] at hv;obtain⟨z,_,hz⟩:=Option.map_eq_some_iff.1 hv;cases hz
theorem cY.keepm{x:Rv}(h:cY w w.heap.size q x)(hb:aD w g T (m.cells (.slice A k c)))(hi:i<8)(u:Value):cY (w.setCell ⟨g,i,none⟩ u) (w.setCell ⟨g,i,none⟩ u).heap.size q x:=by
 obtain⟨y,hy⟩:∃y,(m.cells (.slice A k c))[i]?=some y:=⟨_,Array.getElem?_eq_getElem (by show i<8;exact hi)⟩;obtain⟨A',n',c',rfl⟩:=sR hy;have h0:bS w w.heap.size q x.b1 x.A x.n x.c x.b2 x.A2 x.m x.d:=h;exact bS.keep h0 (v:=.slice A' n' c') (by rw[hb.cell];exact hy) (fun a b e=>by cases e) u
theorem hO.keepm{qs:List Rat}(h:hO w w.heap.size A0 n qs)(hb:aD w g T (m.cells (.slice A k c)))(hi:i<8)(u:Value):hO (w.setCell ⟨g,i,none⟩ u) (w.setCell ⟨g,i,none⟩ u).heap.size A0 n qs:=by
 obtain⟨vs,h1,h2,h3,h4⟩:=h;refine⟨vs,h1,h2,⟨h3.1,fun hn=>?_⟩,fun j q v hq hv=>(h4 j q v hq hv).keepm hb hi u⟩;obtain⟨b,off,e,aR,hc⟩:=h3.2 hn;have hbg:b≠g:=by
  rintro rfl;obtain⟨v,hv⟩:∃v,vs[0]?=some v:=eG (by omega);have:=hc 0 (.bool v.b1) (by have h5:=sN hv 0 (by decide);simpa[Rv.cells] using h5);rw[Nat.add_zero,hb.cell] at this;obtain⟨A',n',c',e⟩:=sR this;cases e
 refine⟨b,off,e,by simpa[World.setCell] using aR,fun j v hv=>?_⟩;rw[World.cell?_setCell_other _ _ _ _ (fun e2=>hbg (by injection e2 with e2;exact e2.symm))];exact hc j v hv
theorem lV.keepm{M:List (List Rat)}(h:lV w w.heap.size A0 n M)(hb:aD w g T (m.cells (.slice A k c)))(hA:∀b off,A0=some ⟨b,off,none⟩->b≠g)(hi:i<8)(u:Value):lV (w.setCell ⟨g,i,none⟩ u) (w.setCell ⟨g,i,none⟩ u).heap.size A0 n M:=by
 obtain⟨hs,h1,h2,h3,h4⟩:=h;refine⟨hs,h1,h2,⟨h3.1,fun hn=>?_⟩,fun j z q hz hq=>⟨(h4 j z q hz hq).1.keepm hb hi u,(h4 j z q hz hq).2⟩⟩;obtain⟨b,off,e,aR,hc⟩:=h3.2 hn;refine⟨b,off,e,by simpa[World.setCell] using aR,fun j v hv=>?_⟩;rw[World.cell?_setCell_other _ _ _ _ (fun e2=>hA b off e (by injection e2 with e2;exact e2.symm))];exact hc j v hv
theorem fN.keepm{m':jN}(h:fN w w.heap.size m' x)(hb:aD w g T (m.cells (.slice A k c)))(hi:i<8)(u:Value):fN (w.setCell ⟨g,i,none⟩ u) (w.setCell ⟨g,i,none⟩ u).heap.size m' x:=by
 have hs:(w.setCell ⟨g,i,none⟩ u).heap.size=w.heap.size:=by simp[World.setCell]
 refine⟨?_,?_,?_,?_,h.r4.keepm hb hi u,h.r5.keepm hb hi u,?_⟩<;>rw[hs]
 ·exact h.r0.keepm hb i u
 ·exact h.r1.keepm hb i u
 ·exact h.r2.keepm hb i u
 ·exact h.r3.keepm hb i u
 ·exact h.r6.keepm hb i u
end
theorem iD.keepv{B0:Nat}{w0 wr:Wo}{v:Value}{piv:List Nat}{hs:List Mh}{L:List (List Rat)}(m:iD B0 g w0 wr v piv hs L){h:Mh}{q:List Rat}{x u:Rv}{z:Rat}(hh:hs[i]?=some h)(hq:L[i]?=some q)(hj:j<q.length)(hu:cY wr wr.heap.size z u):cY (fY wr h.g j x) (fY wr h.g j x).heap.size z u:=by
 have hr:=m.own.row i h q hh hq;obtain⟨h1,h2,h3,cs,h4,h5⟩:=hr.lies (by omega);obtain⟨y,hy⟩:∃y,h.vs[j]?=some y:=eG (by rw[hr.len];exact hj);exact cY.keep4 hu x h4 h5 hy
def aI_(g:Nat)(m:jN)(x:bP)(w:Wo)(e:Ending)(w':Wo):Prop:=e=.returned (.tuple #[])/\w.grownBy w' (some g)/\fN w' w'.heap.size m x/\∃A n c,aD w' g 131 (m.cells (.slice A n c))/\(RJ x->n=(aG x).length/\lV w' w'.heap.size A n (rT x))
theorem rI(ok:cH x)(h8:x.nodes.length<=8):(aG x).length<=8:=by
 unfold aG iB;refine eN (List.length_filter_le _ _) ?_;rw[List.length_range];exact eN (jD ok).2 h8
theorem NU{B:List Rat}{F G:List Nat}{A:List (List Rat)}{v:Nat}{b:Rat}(h1:B[k]?=some b)(h2:F[k]?=some u)(h3:G[k]?=some v):sH free (B.drop k) (F.drop k) (G.drop k) A=sH free (B.drop (k+1)) (F.drop (k+1)) (G.drop (k+1)) (eX free A b u v):=by
 rw[bW h1,bW h2,bW h3];rfl
theorem MO(g:Nat)(m:jN)(x:bP)(ok:cH x)(h8:x.nodes.length<=8)(w:Wo)(hb:aD w g 131 (m.cells (.slice none 0 0)))(r:fN w w.heap.size m x):Calls Tryz.prog 82 #[.pointer (some ⟨g,0,none⟩)] w (aI_ g m x w):=by
 have HG:=lH hb;have HR:=lH r;have N4:Hid ((aG x).length=m.n6):=lH (by rw[<-kO];exact r.r6.len);have pK:Hid (x.brs.length=m.n4):=lH (by rw[<-wT];exact r.r4.len);have e_:Hid (x.brs.length=m.n2):=lH (by rw[<-nS,<-kO];exact r.r2.len);have xJ:Hid (x.brs.length=m.n3):=lH (by rw[<-uJ,<-kO];exact r.r3.len);have h6:m.n6<=8:=by rw[<-N4.o];exact rI ok h8
 have h4:m.n4<=24:=by rw[<-pK.o];exact ok.l2
 have HSB:Hid (∀q∈mB x,bM q<=1):=lH fun q hq=>by
  unfold mB at hq;obtain⟨b,hb,rfl⟩:=List.mem_map.1 hq;exact oR (ok.br b hb).2.2.2
 have zQ:Hid (∀(u:Nat)(w':Wo),Below w.heap.size w w'->Calls Tryz.prog 121 #[.pointer (some ⟨g,0,none⟩),.int .i64 (u:Int)] w' fun e w''=>e=.returned (.int .i64 (wO (wK (aG x) u)))/\w''=w'):=lH fun u w' X8=>
  (Q4 g m _ (aG x) u w' (HG.o.bl X8) (r.r6.bm X8) (by omega)).mono fun e w'' h=>⟨h.1,h.2.symm⟩
 clear hb r ok h8;have y6:=HG.o.cell 6;have yl:=HG.o.lt;have tO:∀w:World,(Instr.makeSlice 129 (.int .i64 (m.n6:Int)) (.int .i64 (m.n6:Int))).run Tryz.prog w=.ok (.slice (some ⟨w.heap.size,0,none⟩) m.n6 m.n6) (w.alloc (.cells (fU m.n6) 96)):=fun w=>wS m.n6 (by omega) w;have HK:=lH ((Below.refl w.heap.size w).alloc lR (.cells (fU m.n6) 96));have HGM:=lH (aD.new w 96 (fU m.n6));obtain⟨A0,n0,c0,A1,n1,c1,A2,n2,c2,A3,n3,c3,A4,n4,c4,A5,n5,c5,A6,n6,c6⟩:=m;simp only[jN.cells] at HG y6 tO HK HGM N4 pK e_ xJ h6 h4;go_enter Tryz.func82,Tryz.ntmps82
 go_wp2_with fail
 clear tO;generalize w.alloc (.cells (fU n6) 96)=W at *;have HO:=lH (wN HGM.o lR);generalize EE:w.heap.size=ga at *;have GM:=lH EE;clear EE HGM
 go_loopw [18] (fun v18 wr=>∃(k:Nat)(hs:List Mh),k<=n6/\v18=.int .i64 k/\Below ga w wr/\hU wr ga ga hs ((qS n6).take k++List.replicate (n6-k) [])) (fun v18 _=>n6-(intOf v18).toNat)
 case atStart=>exact⟨0,_,by omega,rfl,HK.o,by rw[List.take_zero,List.nil_append,Nat.sub_zero];exact HO.o⟩
 case round=>
  clear HK HO;obtain⟨k,hs,hk,rfl,hb,ho⟩:=hrel;have HK:=lH hb;have HO:=lH ho;clear hb ho;by_cases aR:k<n6
  ·have iM:(k:Int)<(n6:Int):=by omega
   have yC:=lN k;have p5:Hid (n6-(k+1)<n6-k):=lH (by omega);have p_:Hid (ga<wr.heap.size):=lH HO.o.top.lt;clear y6 yl;(go_wp2_with fail);refine(vU n6 wr (by omega)).mono ?_;rintro e w7 ⟨fR,gz,vz,rfl,hgz,R6,hvz⟩;have GZ:=lH (HO.o.up fR);have m9:Hid (pC w7 ga ga ⟨some ⟨gz,0,none⟩,gz,n6,List.replicate n6 vz⟩ (List.replicate n6 0)):=lH (aAR R6 hvz (by have:=p_.o;omega) (by have:=p_.o;omega) (by omega));have vQ:=lH (HK.o.trans (fR.mono (qY p_.o)));have TD:Hid (∀j (h':Mh),j≠k->hs[j]?=some h'->0<h'.vs.length->0<(List.replicate n6 vz).length->h'.g≠gz):=lH fun j h' _ hh l1 l2=>by
    have h3:=HO.o.lt hh l1;omega
   clear fR R6 hvz hgz HK HO;have gl:=GZ.o.top.lt;have gf:=GZ.o.top.frozen;have HKL:Hid (k<(((qS n6).take k++List.replicate (n6-k) []):List (List Rat)).length):=lH (by simp[qS];omega);obtain⟨gv,gc⟩:∃gv,w7.cell? ⟨ga,k,none⟩=some gv:=by
    rw[GZ.o.top.cell];exact⟨_,Array.getElem?_eq_getElem (by rw[List.size_toArray,kJ,GZ.o.len];exact HKL.o)⟩
   have T2:=lH (GZ.o.setRow HKL.o m9.o TD.o);rw[aAQ aR,pV] at T2;(go_wp2_with fail);go_roundw
   case rel=>exact⟨k+1,_,aR,aM yC.o,vQ.o.setCell lR _,T2.o⟩
   case measure=>exact p5.o
  ·have pP:k=n6:=by omega
   have zR:Hid (hU wr ga ga hs (qS n6)):=lH (by
    have h:=HO.o;rw[pP,Nat.sub_self,List.replicate_zero,List.append_nil,oP (by unfold qS;rw[pV];exact lR)] at h;exact h)
   have iM:¬(k:Int)<(n6:Int):=by omega
   have N7:Hid (Below w.heap.size w wr):=lH (by rw[GM.o];exact HK.o);have vP:=lH (HG.o.bl N7.o);have y4:=vP.o.cell 4;have yl1:=vP.o.lt;clear y6 yl HO pP;(go_wp2_with fail);clear y4 yl1 N7 vP;generalize wr=wz at *
   go_loopw [32] (fun v32 wr=>∃(k:Nat)(hs:List Mh) (A:List (List Rat)),k<=n4/\v32=.int .i64 k/\iD ga ga w wr (.slice none 0 0) [] hs A/\fE n6 (3+8*k) A/\sH (aG x) ((mB x).drop k) ((jB x).drop k) ((FQ x).drop k) A=kR x) (fun v32 _=>n4-(intOf v32).toNat)
   case atStart=>exact⟨0,hs,qS n6,by omega,rfl,⟨zR.o,g9 _ _ _ _ _,HK.o⟩,zP n6,by unfold kR;rw[N4.o];rfl⟩
   case round=>
    clear HK zR;obtain⟨k,hs,A,hk,rfl,ho,kU,mG⟩:=hrel;have hb:=ho.low;obtain⟨dH,cL,oG⟩:=eR ho kU mG;have HW:Hid (Below w.heap.size w wr):=lH (by rw[GM.o];exact hb);have m9:=lH ((HR.o.below hb lR).more (qY ho.own.top.lt));have vP:=lH (HG.o.bl HW.o);clear hb ho kU mG;by_cases aR:k<n4
    ·obtain⟨q,hq⟩:∃q,(mB x)[k]?=some q:=eG (by rw[wT];have:=pK.o;omega)
     obtain⟨u,hu⟩:∃u,(jB x)[k]?=some u:=eG (by rw[nS];have:=pK.o;omega);obtain⟨v,hv⟩:∃v,(FQ x)[k]?=some v:=eG (by rw[uJ];have:=pK.o;omega);have jE:=lH (NU (free:=aG x) (A:=A) hq hu hv);rw[oG.o] at jE;have T1:=lH (HSB.o q (cS hq));have EB:=m9.o.r4;have uS:=m9.o.r2;have w_:=m9.o.r3;simp only at EB uS w_;obtain⟨ab,ao,sX,iI⟩:=EB.form (by omega);subst sX;obtain⟨xr,a0,a1,a2,a3,a4⟩:=EB.at_ hq;have HX:=lH a4;obtain⟨fb,fo,R_,yN,-⟩:=uS.2 (by have:=e_.o;have:=pK.o;omega);subst R_;have f0:=uS.at_ (lC hu);obtain⟨tb,to2,hA3,htb,-⟩:=w_.2 (by have:=xJ.o;have:=pK.o;omega);subst hA3;have t0:=w_.at_ (lC hv);have iM:(k:Int)<(n4:Int):=by omega
     have yK:k<n2:=by have:=e_.o;have:=pK.o;omega
     have hk3:k<n3:=by have:=xJ.o;have:=pK.o;omega
     have aTi:(k:Int)<(n2:Int):=by omega
     have aTh:(k:Int)<(n3:Int):=by omega
     have pX:=lZ k;have FX:=oL k;have yC:=lN k;have p5:Hid (n4-(k+1)<n4-k):=lH (by omega);have aVe:Hid (ga<wr.heap.size):=lH dH.o.own.top.lt;clear hq hu hv a4 EB uS w_;(go_upto_region 10 with fail);clear a0 a1 a2 a3;generalize lQ:wr.alloc (.cells #[.bool xr.b1,.slice xr.A xr.n xr.c,.bool xr.b2,.slice xr.A2 xr.m xr.d] 87)=wa;have fP:Below wr.heap.size wr wa:=by rw[<-lQ];exact bA
     have PV:Hid (aD wa wr.heap.size 87 #[.bool xr.b1,.slice xr.A xr.n xr.c,.bool xr.b2,.slice xr.A2 xr.m xr.d]):=lH (by rw[<-lQ];exact aD.new wr _ _);have fV:Hid (CI wa ga wr.heap.size hs q xr):=lH ⟨PV.o,HX.o.up fP,fun i h hh l=>dH.o.own.lt hh l⟩;replace dH:=lH (dH.o.up fP);replace vP:=lH (vP.o.bl fP);have f0':=(fP.cell (p:=⟨fb,fo+k,none⟩) yN).trans f0;have t0':=(fP.cell (p:=⟨tb,to2+k,none⟩) htb).trans t0;have C_:fb<wa.heap.size:=jJ yN fP.size;have htl:tb<wa.heap.size:=jJ htb fP.size;clear f0 t0 yN htb m9 lQ fP PV HX;generalize hgx:wr.heap.size=gx at *;have HGX:=lH hgx;clear hgx;have HPA:Hid (∀(u N:Nat),Calls Tryz.prog 121 #[.pointer (some ⟨g,0,none⟩),.int .i64 (u:Int)] (wa.drewN N) fun e w''=>e=.returned (.int .i64 (wO (wK (aG x) u)))/\w''=wa.drewN N):=lH fun u N=>zQ.o u (wa.drewN N) (aS dH.o.low N);have y2:=vP.o.cell 2;have y3:=vP.o.cell 3;have yl:=vP.o.lt
     go_quiet ((first | (go_at_call_of 121 (Value.int .i64 (u:Int));exact(HPA.o u _).mono (fun _ _ hh=>⟨hh.1,_,hh.2⟩)) | (go_at_call_of 121 (Value.int .i64 (v:Int));exact(HPA.o v _).mono (fun _ _ hh=>⟨hh.1,_,hh.2⟩))))
     replace dH:=lH (dH.o.up (aS bR nq));replace fV:=lH (fV.o.up (aS bR nq));clear HPA;replace vP:=lH (vP.o.drewN nq);have f0:(wa.drewN nq).cell? ⟨fb,fo+k,none⟩=some (.int .i64 (u:Int)):=f0';have t0:(wa.drewN nq).cell? ⟨tb,to2+k,none⟩=some (.int .i64 (v:Int)):=t0';have aMQ:fb<(wa.drewN nq).heap.size:=C_;have aLT:tb<(wa.drewN nq).heap.size:=htl;clear f0' t0' C_ htl y2 y3 yl;generalize wa.drewN nq=wd at *;have y2:=vP.o.cell 2;have y3:=vP.o.cell 3;have yl:=vP.o.lt;by_cases RT:u=v
     ·subst RT
      have LG:Hid (eX (aG x) A q u u=A):=lH (by unfold eX;rw[if_pos rfl]);rw[LG.o] at jE;(go_wp2_with fail)
      go_quiet (fail)
      (go_wp2_with fail);go_roundw
      case rel=>exact⟨k+1,hs,A,aR,aM yC.o,dH.o.up (aS bR _),cL.o.mono (by omega),jE.o.symm⟩
      case measure=>exact p5.o
     ·have aLQ:¬((u:Int)=(v:Int)):=by omega
      have aLR:((u:Int) == (v:Int))=false:=by simp;omega
      go_wp2_with fail
      go_quiet (fail)
      clear f0 t0 aMQ aLT y2 y3 yl aLQ aLR;replace dH:=lH (dH.o.up (aS bR nq));replace fV:=lH (fV.o.up (aS bR nq));clear vP;generalize wd.drewN nq=we at *;have DH:=lH N4.o;cases hpu:wK (aG x) u with
      | none=>
       cases hpv:wK (aG x) v with
       | none=>
        have LG:Hid (eX (aG x) A q u v=A):=lH (by unfold eX;rw[if_neg RT,hpu,hpv]);rw[LG.o] at jE;rw[(show wO (none:Option Nat)=-1 from rfl)];(go_wp2_with fail);go_roundw
        case rel=>exact⟨k+1,hs,A,aR,aM yC.o,dH.o,cL.o.mono (by omega),jE.o.symm⟩
        case measure=>exact p5.o
       | some j=>
        have hi:=(dF hpv).1;rw[DH.o] at hi;have LG:Hid (eX (aG x) A q u v=dY A j j q):=lH (by unfold eX;rw[if_neg RT,hpu,hpv]);rw[LG.o] at jE;rw[(show wO (none:Option Nat)=-1 from rfl),show wO (some j)=(j:Int) from rfl];have CZ:(j:Int)<(n6:Int):=by omega
        have jL:=lZ j;clear hpu hpv LG;(go_upto_region 15 with fail);obtain⟨ra,pH⟩:∃ra,A[j]?=some ra:=eG (by have:=cL.o.len;omega);have o5:ra.length=n6:=cL.o.wid ra (cS pH);obtain⟨gg,cc,vs,xe,hh,c,hx,c0,c1,c2',c3',hv,l1,f1,cK⟩:=dH.o.elem (i:=j) (j:=j) pH (by omega);rw[o5] at c;obtain⟨HH,Z0,KS,r_,tJ⟩:=mP hh hx hv pH o5;have N0:Hid (bM (vf ra j)+bM q+1<=35184372088832):=lH (by have:=cL.o.bd.vf pH (j:=j) (by omega);have:=T1.o;omega);have gl:=dH.o.own.top.lt;obtain⟨z0,z1,z2,z3,zl⟩:=fV.o.blk.b4;have bH:=lH (aH (Below.refl we.heap.size we));have BC:(j:Int)<(n6:Int):=by omega
        have BD:=lZ j;have BA:=oL j;clear hh hx hv pH o5;refine rS 15 (fun hHeld=>?_);simp only[oO,List.take_zero];refine d7 [0,1,2,3,4,5,6,7,8,9,10,11,12] ?_;refine bI 13 (fun K hK=>?_);go_simp;refine(B5 (KS.o.up bH.o) (fV.o.val.up bH.o) N0.o).mono ?_;rintro e w8 ⟨mL,v8,rfl,h8⟩;have hX:Hid (Below we.heap.size we w8):=lH (bH.o.tm mL);have H8:=lH h8;clear mL h8;go_simp;refine iJ hK hX.o (fun hHeld=>?_);clear hK K;refine d7 [14] ?_;refine fZ ?_;clear hHeld;have sJ:=lH (dH.o.up hX.o);have SW:=lH (fV.o.up hX.o);clear c c0 c1 c2' c3' l1 f1 cK gl z0 z1 z2 z3 zl dH fV KS N0 bH;obtain⟨c0,c1,c2',c3',l1,f1⟩:=sJ.o.elem2 HH.o r_.o Z0.o;(go_upto_region 16 with fail);clear c0 c1 c2' c3' l1 f1;have dH:=sJ.o.put HH.o r_.o (j:=j) (x:=v8) (by rw[tJ.o];omega) H8.o;have fV:=SW.o.put sJ.o HH.o r_.o (j:=j) (x:=v8) (by rw[tJ.o];omega);rw[<-fM r_.o] at dH;replace cL:Hid (fE n6 (3+8*k+2) (dY A j j q)):=lH (cL.o.add (by omega) (by omega) T1.o);simp only[fY] at dH fV;generalize (((w8.setCell ⟨gg,j*4,none⟩ _).setCell ⟨gg,j*4+1,none⟩ _).setCell ⟨gg,j*4+2,none⟩ _).setCell ⟨gg,j*4+3,none⟩ _=wf at *;replace dH:=lH dH;replace fV:=lH fV;generalize hs.set j _=pG at *;obtain⟨A1,sX⟩:∃A1,dY A j j q=A1:=⟨_,rfl⟩;rw[sX] at dH cL;have HA1:=lH sX;clear sX sJ SW H8 hX HH r_ tJ Z0 BC BD BA;rw[HA1.o] at jE;(go_wp2_with fail);go_roundw
        case rel=>exact⟨k+1,pG,A1,aR,aM yC.o,dH.o,cL.o.mono (by omega),jE.o.symm⟩
        case measure=>exact p5.o
      | some i=>
       cases hpv:wK (aG x) v with
       | none=>
        have hi:=(dF hpu).1;rw[DH.o] at hi;have LG:Hid (eX (aG x) A q u v=dY A i i q):=lH (by unfold eX;rw[if_neg RT,hpu,hpv]);rw[LG.o] at jE;rw[(show wO (none:Option Nat)=-1 from rfl),show wO (some i)=(i:Int) from rfl];have CZ:(i:Int)<(n6:Int):=by omega
        have jL:=lZ i;clear hpu hpv LG;(go_upto_region 13 with fail);obtain⟨ra,pH⟩:∃ra,A[i]?=some ra:=eG (by have:=cL.o.len;omega);have o5:ra.length=n6:=cL.o.wid ra (cS pH);obtain⟨gg,cc,vs,xe,hh,c,hx,c0,c1,c2',c3',hv,l1,f1,cK⟩:=dH.o.elem (i:=i) (j:=i) pH (by omega);rw[o5] at c;obtain⟨HH,Z0,KS,r_,tJ⟩:=mP hh hx hv pH o5;have N0:Hid (bM (vf ra i)+bM q+1<=35184372088832):=lH (by have:=cL.o.bd.vf pH (j:=i) (by omega);have:=T1.o;omega);have gl:=dH.o.own.top.lt;obtain⟨z0,z1,z2,z3,zl⟩:=fV.o.blk.b4;have bH:=lH (aH (Below.refl we.heap.size we));have BC:(i:Int)<(n6:Int):=by omega
        have BD:=lZ i;have BA:=oL i;clear hh hx hv pH o5;refine rS 15 (fun hHeld=>?_);simp only[oO,List.take_zero];refine d7 [0,1,2,3,4,5,6,7,8,9,10,11,12] ?_;refine bI 13 (fun K hK=>?_);go_simp;refine(B5 (KS.o.up bH.o) (fV.o.val.up bH.o) N0.o).mono ?_;rintro e w8 ⟨mL,v8,rfl,h8⟩;have hX:Hid (Below we.heap.size we w8):=lH (bH.o.tm mL);have H8:=lH h8;clear mL h8;go_simp;refine iJ hK hX.o (fun hHeld=>?_);clear hK K;refine d7 [14] ?_;refine fZ ?_;clear hHeld;have sJ:=lH (dH.o.up hX.o);have SW:=lH (fV.o.up hX.o);clear c c0 c1 c2' c3' l1 f1 cK gl z0 z1 z2 z3 zl dH fV KS N0 bH;obtain⟨c0,c1,c2',c3',l1,f1⟩:=sJ.o.elem2 HH.o r_.o Z0.o;(go_upto_region 14 with fail);clear c0 c1 c2' c3' l1 f1;have dH:=sJ.o.put HH.o r_.o (j:=i) (x:=v8) (by rw[tJ.o];omega) H8.o;have fV:=SW.o.put sJ.o HH.o r_.o (j:=i) (x:=v8) (by rw[tJ.o];omega);rw[<-fM r_.o] at dH;replace cL:Hid (fE n6 (3+8*k+2) (dY A i i q)):=lH (cL.o.add (by omega) (by omega) T1.o);simp only[fY] at dH fV;generalize (((w8.setCell ⟨gg,i*4,none⟩ _).setCell ⟨gg,i*4+1,none⟩ _).setCell ⟨gg,i*4+2,none⟩ _).setCell ⟨gg,i*4+3,none⟩ _=wf at *;replace dH:=lH dH;replace fV:=lH fV;generalize hs.set i _=pG at *;obtain⟨A1,sX⟩:∃A1,dY A i i q=A1:=⟨_,rfl⟩;rw[sX] at dH cL;have HA1:=lH sX;clear sX sJ SW H8 hX HH r_ tJ Z0 BC BD BA;rw[HA1.o] at jE;(go_wp2_with fail);go_roundw
        case rel=>exact⟨k+1,pG,A1,aR,aM yC.o,dH.o,cL.o.mono (by omega),jE.o.symm⟩
        case measure=>exact p5.o
       | some j=>
        have hi:=(dF hpu).1;have hj:=(dF hpv).1;have rV:=aD7 hpu hpv RT;rw[DH.o] at hi hj;have LG:Hid (eX (aG x) A q u v=dY (dY (dY (dY A i i q) j j q) i j (-q)) j i (-q)):=lH (by unfold eX;rw[if_neg RT,hpu,hpv]);rw[LG.o] at jE;rw[show wO (some i)=(i:Int) from rfl,show wO (some j)=(j:Int) from rfl];have CZ:(i:Int)<(n6:Int):=by omega
        have jL:=lZ i;have hjI:(j:Int)<(n6:Int):=by omega
        have JF:=lZ j;clear hpu hpv LG;(go_upto_region 13 with fail);obtain⟨ra,pH⟩:∃ra,A[i]?=some ra:=eG (by have:=cL.o.len;omega);have o5:ra.length=n6:=cL.o.wid ra (cS pH);obtain⟨gg,cc,vs,xe,hh,c,hx,c0,c1,c2',c3',hv,l1,f1,cK⟩:=dH.o.elem (i:=i) (j:=i) pH (by omega);rw[o5] at c;obtain⟨HH,Z0,KS,r_,tJ⟩:=mP hh hx hv pH o5;have N0:Hid (bM (vf ra i)+bM q+1<=35184372088832):=lH (by have:=cL.o.bd.vf pH (j:=i) (by omega);have:=T1.o;omega);have gl:=dH.o.own.top.lt;obtain⟨z0,z1,z2,z3,zl⟩:=fV.o.blk.b4;have bH:=lH (aH (Below.refl we.heap.size we));have BC:(i:Int)<(n6:Int):=by omega
        have BD:=lZ i;have BA:=oL i;clear hh hx hv pH o5;refine rS 15 (fun hHeld=>?_);simp only[oO,List.take_zero];refine d7 [0,1,2,3,4,5,6,7,8,9,10,11,12] ?_;refine bI 13 (fun K hK=>?_);go_simp;refine(B5 (KS.o.up bH.o) (fV.o.val.up bH.o) N0.o).mono ?_;rintro e w8 ⟨mL,v8,rfl,h8⟩;have hX:Hid (Below we.heap.size we w8):=lH (bH.o.tm mL);have H8:=lH h8;clear mL h8;go_simp;refine iJ hK hX.o (fun hHeld=>?_);clear hK K;refine d7 [14] ?_;refine fZ ?_;clear hHeld;have sJ:=lH (dH.o.up hX.o);have SW:=lH (fV.o.up hX.o);clear c c0 c1 c2' c3' l1 f1 cK gl z0 z1 z2 z3 zl dH fV KS N0 bH;obtain⟨c0,c1,c2',c3',l1,f1⟩:=sJ.o.elem2 HH.o r_.o Z0.o;(go_upto_region 15 with fail);clear c0 c1 c2' c3' l1 f1;have dH:=sJ.o.put HH.o r_.o (j:=i) (x:=v8) (by rw[tJ.o];omega) H8.o;have fV:=SW.o.put sJ.o HH.o r_.o (j:=i) (x:=v8) (by rw[tJ.o];omega);rw[<-fM r_.o] at dH;replace cL:Hid (fE n6 (3+8*k+2) (dY A i i q)):=lH (cL.o.add (by omega) (by omega) T1.o);simp only[fY] at dH fV;generalize (((w8.setCell ⟨gg,i*4,none⟩ _).setCell ⟨gg,i*4+1,none⟩ _).setCell ⟨gg,i*4+2,none⟩ _).setCell ⟨gg,i*4+3,none⟩ _=wf at *;replace dH:=lH dH;replace fV:=lH fV;generalize hs.set i _=pG at *;obtain⟨A1,sX⟩:∃A1,dY A i i q=A1:=⟨_,rfl⟩;rw[sX] at dH cL;have HA1:=lH sX;clear sX sJ SW H8 hX HH r_ tJ Z0 BC BD BA;rw[HA1.o] at jE;obtain⟨ra,pH⟩:∃ra,A1[j]?=some ra:=eG (by have:=cL.o.len;omega);have o5:ra.length=n6:=cL.o.wid ra (cS pH);obtain⟨gg,cc,vs,xe,hh,c,hx,c0,c1,c2',c3',hv,l1,f1,cK⟩:=dH.o.elem (i:=j) (j:=j) pH (by omega);rw[o5] at c;obtain⟨HH,Z0,KS,r_,tJ⟩:=mP hh hx hv pH o5;have N0:Hid (bM (vf ra j)+bM q+1<=35184372088832):=lH (by have:=cL.o.bd.vf pH (j:=j) (by omega);have:=T1.o;omega);have gl:=dH.o.own.top.lt;obtain⟨z0,z1,z2,z3,zl⟩:=fV.o.blk.b4;have bH:=lH (aH (Below.refl wf.heap.size wf));have BC:(j:Int)<(n6:Int):=by omega
        have BD:=lZ j;have BA:=oL j;clear hh hx hv pH o5;refine rS 15 (fun hHeld=>?_);simp only[oO,List.take_zero];refine d7 [0,1,2,3,4,5,6,7,8,9,10,11,12] ?_;refine bI 13 (fun K hK=>?_);go_simp;refine(B5 (KS.o.up bH.o) (fV.o.val.up bH.o) N0.o).mono ?_;rintro e w8 ⟨mL,v8,rfl,h8⟩;have hX:Hid (Below wf.heap.size wf w8):=lH (bH.o.tm mL);have H8:=lH h8;clear mL h8;go_simp;refine iJ hK hX.o (fun hHeld=>?_);clear hK K;refine d7 [14] ?_;refine fZ ?_;clear hHeld;have sJ:=lH (dH.o.up hX.o);have SW:=lH (fV.o.up hX.o);clear c c0 c1 c2' c3' l1 f1 cK gl z0 z1 z2 z3 zl dH fV KS N0 bH;obtain⟨c0,c1,c2',c3',l1,f1⟩:=sJ.o.elem2 HH.o r_.o Z0.o;(go_upto_region 17 with fail);clear c0 c1 c2' c3' l1 f1;have dH:=sJ.o.put HH.o r_.o (j:=j) (x:=v8) (by rw[tJ.o];omega) H8.o;have fV:=SW.o.put sJ.o HH.o r_.o (j:=j) (x:=v8) (by rw[tJ.o];omega);rw[<-fM r_.o] at dH;replace cL:Hid (fE n6 (3+8*k+2+2) (dY A1 j j q)):=lH (cL.o.add (by omega) (by omega) T1.o);simp only[fY] at dH fV;generalize (((w8.setCell ⟨gg,j*4,none⟩ _).setCell ⟨gg,j*4+1,none⟩ _).setCell ⟨gg,j*4+2,none⟩ _).setCell ⟨gg,j*4+3,none⟩ _=wg at *;replace dH:=lH dH;replace fV:=lH fV;generalize pG.set j _=yI at *;obtain⟨A2,R_⟩:∃A2,dY A1 j j q=A2:=⟨_,rfl⟩;rw[R_] at dH cL;have HA2:=lH R_;clear R_ sJ SW H8 hX HH r_ tJ Z0 BC BD BA;rw[HA2.o] at jE;obtain⟨ra,pH⟩:∃ra,A2[i]?=some ra:=eG (by have:=cL.o.len;omega);obtain⟨rb,RW⟩:∃rb,A2[j]?=some rb:=eG (by have:=cL.o.len;omega);have o5:ra.length=n6:=cL.o.wid ra (cS pH);have aEk:rb.length=n6:=cL.o.wid rb (cS RW);obtain⟨g1,k1,vs1,x1,hh1,p,p0,p1,p2,p3,p4,lD,l1,f1,aMb⟩:=dH.o.elem (i:=i) (j:=j) pH (by omega);obtain⟨g2,k2,vs2,x2,TR,e,e0,e1,e2,e3,e4,jG,l2,f2,JD⟩:=dH.o.elem (i:=j) (j:=i) RW (by omega);rw[o5] at p;rw[aEk] at e;obtain⟨HH1,HH2,dE,eT,mM⟩:=mP hh1 TR p0 e0 lD;obtain⟨yQ,r_,HRB,aJB,aOi⟩:=mP jG pH RW o5 aEk;have aJG:Hid (bM (vf ra j)+bM q+1<=35184372088832):=lH (by have:=cL.o.bd.vf pH (j:=j) (by omega);have:=T1.o;omega);have aJF:Hid (bM (vf rb i)+bM q+1<=35184372088832):=lH (by have:=cL.o.bd.vf RW (j:=i) (by omega);have:=T1.o;omega);have HIJ:=lH rV;have gl:=dH.o.own.top.lt;obtain⟨z0,z1,z2,z3,zl⟩:=fV.o.blk.b4;have bH:=lH (aH (Below.refl wg.heap.size wg));have rH:=oL i;have tP:=oL j;clear hh1 TR p0 e0 lD jG pH RW o5 aEk rV;refine vX (S:=fun w'=>Below wg.heap.size wg w') 28 9 _ _ _ _ (.int .i64 (i:Int)) (by kernel_rfl) (by kernel_rfl) (by kernel_rfl) (by kernel_rfl) rfl (by decide) (by kernel_rfl) rfl rfl rfl (by kernel_rfl) (fun _ _ _ h=>h) (by rfl) (fun w'=>by go_simp<;>with_reducible rfl) (aH bR) (fun hHeld=>?_);simp only[oO,List.take_zero];(try simp only[Act.put,iG,iF,iE]);refine d7 [0,1,2,3,4,5,6,7,8,10,11,12,13,14,15,16,17,19,20,21,22,23,24,25,26] ?_;refine bI 18 (fun K hK=>?_);go_simp;refine(UT (mM.o.up bH.o) (fV.o.val.up bH.o) aJG.o).mono ?_;rintro e8 w8 ⟨mL,v8,rfl,h8⟩;have hX:Hid (Below wg.heap.size wg w8):=lH (bH.o.tm mL);have H8:=lH h8;clear mL h8;go_simp;refine iJ hK hX.o (fun hHeld=>?_);clear hK K;refine bI 27 (fun K hK=>?_);go_simp;refine(UT (yQ.o.up hX.o) (fV.o.val.up hX.o) aJF.o).mono ?_;rintro e9 w9 ⟨jQ,v9,rfl,h9⟩;have eU:Hid (Below wg.heap.size wg w9):=lH (hX.o.tm jQ);have H9:=lH h9;replace H8:=lH (H8.o.up jQ);clear jQ h9;go_simp;refine iJ hK eU.o (fun hHeld=>?_);clear hK K;refine d7 [28] ?_;refine fZ ?_;clear hHeld;have P2:=lH (dH.o.up eU.o);clear p p1 p2 p3 p4 l1 f1 aMb e e1 e2 e3 e4 l2 f2 JD gl z0 z1 z2 z3 zl dH fV mM yQ aJG aJF bH hX;obtain⟨p1,p2,p3,p4,l1,f1⟩:=P2.o.elem2 HH1.o r_.o dE.o;go_simp;have S_:=P2.o.put HH1.o r_.o (j:=j) (x:=v8) (by rw[aJB.o];omega) H8.o;have H10:=iD.keepv (x:=v8) P2.o HH1.o r_.o (j:=j) (by rw[aJB.o];omega) H9.o;rw[Rat.sub_eq_add_neg,<-fM r_.o] at S_;have aFA:Hid ((dY A2 i j (-q))[j]?=some rb):=lH (by rw[fM r_.o,List.getElem?_set_ne HIJ.o];exact HRB.o);have aJ5:=lH ((List.getElem?_set_ne (l:=yI) (a:=(⟨some ⟨g1,0,none⟩,g1,k1,vs1.set j v8⟩:Mh)) HIJ.o).trans HH2.o);replace cL:Hid (fE n6 (3+8*k+2+2+2+2) (dY (dY A2 i j (-q)) j i (-q))):=lH ((cL.o.add (i:=i) (j:=j) (q:=-q) (by omega) (by omega) (by rw[kG];exact T1.o)).add (by omega) (by omega) (by rw[kG];exact T1.o));simp only[fY] at S_ H10;generalize (((w9.setCell ⟨g1,j*4,none⟩ _).setCell ⟨g1,j*4+1,none⟩ _).setCell ⟨g1,j*4+2,none⟩ _).setCell ⟨g1,j*4+3,none⟩ _=wh at *;replace S_:=lH S_;replace H10:=lH H10;generalize dY A2 i j (-q)=A3 at *;generalize yI.set i _=hs3 at *;clear p1 p2 p3 p4 l1 f1 P2 H8 H9 eU;obtain⟨e1,e2,e3,e4,l2,f2⟩:=S_.o.elem2 aJ5.o aFA.o eT.o;refine cJ (by rfl) ?_;go_simp;refine cJ (by rfl) ?_;(go_wp2_with fail);go_roundw
        case rel=>
         have yS:=S_.o.put aJ5.o aFA.o (j:=i) (x:=v9) (by rw[aOi.o];omega) H10.o;rw[Rat.sub_eq_add_neg,<-fM aFA.o] at yS;exact⟨k+1,_,_,aR,aM yC.o,yS,cL.o.mono (by omega),jE.o.symm⟩
        case measure=>exact p5.o
    ·have pP:k=n4:=by omega
     have HA:Hid (A=kR x):=lH (by
      have h:=oG.o;rw[List.drop_eq_nil_of_le (by rw[wT];have:=pK.o;omega)] at h;exact h)
     rw[HA.o] at dH cL;have iM:¬(k:Int)<(n4:Int):=by omega
     have hmr:(kR x).length=n6:=cL.o.len;have HRM:Hid (lV wr wr.heap.size (some ⟨ga,0,none⟩) n6 (kR x)):=lH (by have h:=dH.o.own.rd;rwa[hmr] at h);have hpw:4^n6<=4^8:=Nat.pow_le_pow_right (by decide) h6;have LI:=lH (RL (some ⟨ga,0,none⟩) n6 n6 (3+8*k) (kR x) wr HRM.o (by omega) cL.o.wid cL.o.bd (by omega) (eN (Nat.mul_le_mul hpw lR) (by omega)));have P1:=lH hmr;clear oG HA pP hpw hmr HRM cL aR hk;(go_wp2_with fail);refine LI.o.mono ?_;rintro e w1 ⟨bG,halt⟩;have cR:Hid (Below ga w w1):=lH (dH.o.low.trans (bG.mono (qY dH.o.own.top.lt)));have HWL:Hid (ga<=wr.heap.size):=lH (qY dH.o.own.top.lt);have HWS:Hid (ga<=w1.heap.size):=lH (by have:=cR.o.size;have:=GM.o;omega);have nI:=lH ((HR.o.below cR.o lR).more HWS.o);have fW:=lH (HG.o.below cR.o (by have:=HG.o.lt;have:=GM.o;omega));have HGR:Hid (∀u,w.grownBy (w1.setCell ⟨g,7,none⟩ u) (some g)):=lH fun u=>oW (fC (by rw[GM.o];exact cR.o) _) (.inl rfl) u;have HMB:Hid (∀u,aD (w1.setCell ⟨g,7,none⟩ u) g 131 #[.slice A0 n0 c0,.slice A1 n1 c1,.slice A2 n2 c2,.slice A3 n3 c3,.slice A4 n4 c4,.slice A5 n5 c5,.slice A6 n6 c6,u]):=lH fun u=>fW.o.set_at (i:=7) u (by simp)
     have HKM:Hid (∀u,fN (w1.setCell ⟨g,7,none⟩ u) (w1.setCell ⟨g,7,none⟩ u).heap.size ⟨A0,n0,c0,A1,n1,c1,A2,n2,c2,A3,n3,c3,A4,n4,c4,A5,n5,c5,A6,n6,c6⟩ x):=lH fun u=>nI.o.keepm (m:=⟨A0,n0,c0,A1,n1,c1,A2,n2,c2,A3,n3,c3,A4,n4,c4,A5,n5,c5,A6,n6,c6⟩) fW.o (by decide) u;rw[P1.o] at halt;have aFz:Hid (RJ x<->¬(jK (fD (kR x)) n6).2.length<n6):=lH (by unfold RJ;rw[N4.o]);have KY:Hid (rT x=(jK (fD (kR x)) n6).1.map (List.drop n6)):=lH (by unfold rT;rw[N4.o]);have y7:=fW.o.cell 7;have yl:=fW.o.lt;have yf:=fW.o.frozen;clear bG LI dH;rcases halt with⟨hh,rfl⟩ | ⟨hh,g2,rfl,iH,hrm⟩
     ·have HNR:Hid (¬RJ x):=lH fun h=>aFz.o.1 h hh
      clear hh aFz KY;(go_wp2_with fail)
      go_end0
      exact⟨rfl,HGR.o _,HKM.o _,none,0,0,HMB.o _,fun h=>absurd h HNR.o⟩
     ·have aOg:Hid (∀u,lV (w1.setCell ⟨g,7,none⟩ u) (w1.setCell ⟨g,7,none⟩ u).heap.size (some ⟨g2,0,none⟩) n6 (rT x)):=lH fun u=>by
       rw[KY.o];refine lV.keepm (m:=⟨A0,n0,c0,A1,n1,c1,A2,n2,c2,A3,n3,c3,A4,n4,c4,A5,n5,c5,A6,n6,c6⟩) hrm fW.o (fun b off e=>?_) (by decide) u;injection e with e;injection e with e1 e2;have:=HG.o.lt;have:=GM.o;have:=HWL.o;omega
      clear hh hrm aFz KY;(go_wp2_with fail)
      go_end0
      exact⟨rfl,HGR.o _,HKM.o _,some ⟨g2,0,none⟩,n6,n6,HMB.o _,fun h=>⟨N4.o.symm,aOg.o _⟩⟩
end

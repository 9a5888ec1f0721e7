import Derived.Test.YthgdchffeigkbaaGreatDoorW17
import Derived.Test.YthgdchffeigkbaaGreatDoorW18
import Derived.Maps.RangeWalk
set_option linter.unusedVariables false
set_option linter.unusedSimpArgs false
namespace Go.Proofs.YthgdchffeigkbaaGreatDoor
set_option maxHeartbeats 8000000
set_option maxRecDepth 100000
variable {Z base e g i j n : Nat} {b : Br} {l lf qs : List Rat} {ps : List Int} {u v : Value} {w : World} {x : bK}
section
def BF(x:bK)(ps:List Int):Nat->Nat->Int
 | 0,_=>0
 | i+1,j=>BF x ps i j+if qR x i=j then ps.getD i 0 else 0
def uE(x:bK)(ps:List Int)(i:Nat):List Int:=(List.range (aH x)).map (BF x ps i)
theorem sR:(uE x ps i).length=aH x:=by simp[uE]
theorem vP(h:j<aH x):(uE x ps i)[j]?=some (BF x ps i j):=by
 unfold uE;rw[lT,List.getElem?_range h];rfl
theorem WF:uE x ps 0=List.replicate (aH x) 0:=by
 refine List.eq_replicate_iff.2 ⟨sR,fun b hb=>?_⟩;obtain⟨j,-,rfl⟩:=List.mem_map.1 hb;rfl
theorem aBL{p:Int}(hp:ps[i]?=some p)(h:qR x i<aH x):(uE x ps i).set (qR x i) (BF x ps i (qR x i)+p)=uE x ps (i+1):=by
 apply List.ext_getElem?;intro j;rw[List.getElem?_set,sR];have hg:ps.getD i 0=p:=by rw[dH,hp];rfl
 by_cases e:qR x i=j
 ·subst e
  rw[if_pos rfl,if_pos h,vP h];unfold BF;rw[if_pos rfl,hg];cases i<;>rfl
 ·rw[if_neg e]
  by_cases hj:j<aH x
  ·rw[vP hj,vP hj]
   congr 1
   show _=BF x ps i j+_;rw[if_neg e,Int.add_zero]
  ·rw[List.getElem?_eq_none (by rw[sR];omega),List.getElem?_eq_none (by rw[sR];omega)]
theorem I0{x:bK}(hz:∀p∈ps,-100000<=p/\p<=100000):∀i j:Nat,-(100000*(i:Int))<=BF x ps i j/\BF x ps i j<=100000*(i:Int)
 | 0,j=>by unfold BF;omega
 | i+1,j=>by
  have ih:=I0 (x:=x) hz i j;have hp:-100000<=ps.getD i 0/\ps.getD i 0<=100000:=by
   rw[dH];cases h:ps[i]? with
   | none=>exact⟨by decide,by decide⟩
   | some p=>exact hz p (bS h)
  unfold BF;split<;>omega
def xF(x:bK)(ps:List Int):List Rat:=(uE x ps ps.length).map fun z:Int=>((z:Int):Rat)
theorem AO:(xF x ps).length=aH x:=by unfold xF;rw[iT,sR]
theorem aEl(hz:∀p∈ps,-100000<=p/\p<=100000)(hl:ps.length<=24):∀q∈xF x ps,bE q<=2:=fun q hq=>by
 unfold xF at hq;obtain⟨z,hz',rfl⟩:=List.mem_map.1 hq;unfold uE at hz';obtain⟨j,-,rfl⟩:=List.mem_map.1 hz';have:=I0 (x:=x) hz ps.length j;exact dP _ (by omega) (by omega)
def E2(x:bK)(l:List Rat)(b:Br):List Rat:=l.set (aG x b.fr) (vf l (aG x b.fr)-jD b)
def aAV(x:bK)(l:List Rat)(b:Br):List Rat:=l.set (aG x b.to) (vf l (aG x b.to)+jD b)
def pF(x:bK)(qs:List Rat)(k:Nat):List Rat:=(x.brs.take k).foldl (fun l b=>aAV x (E2 x l b) b) qs
theorem H_:(E2 x l b).length=l.length:=by unfold E2;rw[kV]
theorem aEg:(aAV x l b).length=l.length:=by unfold aAV;rw[kV]
theorem G9:pF x qs 0=qs:=by unfold pF;rw[List.take_zero];rfl
theorem G_{k:Nat}(h:x.brs[k]?=some b):pF x qs (k+1)=aAV x (E2 x (pF x qs k) b) b:=by
 unfold pF;rw[gJ h,List.foldl_append];rfl
theorem FT:∀k:Nat,k<=x.brs.length->(pF x qs k).length=qs.length
 | 0,_=>by rw[G9]
 | k+1,h=>by
  obtain⟨b,hb⟩:∃b,x.brs[k]?=some b:=eE (by omega);rw[G_ hb,aEg,H_,FT k (by omega)]
theorem QM(h:∀q∈l,bE q<=Z)(hu:aG x b.fr<l.length)(hb:b.bad=false):∀q∈E2 x l b,bE q<=Z+3:=fun q hq=>by
 unfold E2 at hq;rcases List.mem_or_eq_of_mem_set hq with e | e
 ·have:=h q e;omega
 ·have h1:=rD (vf l (aG x b.fr)) (jD b)
  have h2:=h _ (bS (bC hu));have h3:=tW hb;rw[e];omega
theorem aEf(h:∀q∈l,bE q<=Z)(hu:aG x b.to<l.length)(hb:b.bad=false):∀q∈aAV x l b,bE q<=Z+3:=fun q hq=>by
 unfold aAV at hq;rcases List.mem_or_eq_of_mem_set hq with e | e
 ·have:=h q e;omega
 ·have h1:=kJ (vf l (aG x b.to)) (jD b)
  have h2:=h _ (bS (bC hu));have h3:=tW hb;rw[e];omega
theorem NJ{x:bK}(ok:bJ x){qs:List Rat}(hl:qs.length=aH x)(h:∀q∈qs,bE q<=Z):∀k:Nat,k<=x.brs.length->∀q∈pF x qs k,bE q<=Z+6*k
 | 0,_=>by rw[G9];exact h
 | k+1,hk=>by
  obtain⟨b,hb⟩:∃b,x.brs[k]?=some b:=eE (by omega);have KE:=ok.br b (bS hb);have h1:=FT (x:=x) (qs:=qs) k (by omega);have h2:=QM (x:=x) (b:=b) (NJ ok hl h k (by omega)) (by rw[h1,hl];exact(bU ok KE.1).2.1) KE.2.2.2;have h3:=aEf (x:=x) (b:=b) h2 (by rw[H_,h1,hl];exact(bU ok KE.2.1).2.1) KE.2.2.2;rw[G_ hb];intro q hq;have:=h3 q hq;omega
def xD(x:bK)(lf:List Rat):List Rat:=(aA x).map (vf lf)
def CJ(x:bK)(lf:List Rat):Fn:=fun i=>iM ((yP x).getD i []) (xD x lf)
def PL(x:bK)(lf:List Rat):List Rat:=qD (aA x) (CJ x lf) (kT (aH x)) (aA x).length
theorem GO:(PL x lf).length=aH x:=by unfold PL;rw[oE];exact qV
theorem PK:XF x (PL x lf):=⟨GO,fun j hj hf=>by
 unfold PL;rw[X8 hj];unfold ext;rw[hf];rfl⟩
theorem aNe(ok:bJ x):∃K,K<=3+8*x.brs.length/\eZ (aA x).length K (qT x):=by
 have key:∀(bs:List Br)(K:Nat) (A:List (List Rat)),(∀b∈bs,bE (dB b)<=1)->eZ (aA x).length K A->∃K',K'<=K+8*bs.length/\eZ (aA x).length K' (xY (aA x) (bs.map dB) (bs.map fun b=>aG x b.fr) (bs.map fun b=>aG x b.to) A):=by
  intro bs
  induction bs with
  | nil=>exact fun K A _ h=>⟨K,by simp,h⟩
  | cons b bs ih=>
   intro K A hq h;obtain⟨K',h1,h2⟩:=ih (K+8) _ (fun a ha=>hq a (by simp[ha])) (zA h (hq b (by simp)));exact⟨K',by rw[EX];omega,h2⟩
 obtain⟨K',h1,h2⟩:=key x.brs 3 (oH (aA x).length) (fun b hb=>o_ (ok.br b hb).2.2.2) (BI _);refine⟨K',h1,?_⟩;unfold qT;rw[(mJ x).1,(mJ x).2];exact h2
theorem QL(ok:bJ x)(h8:x.nodes.length<=8):∀a∈yP x,∀q∈a,bE q<=20000000:=fun a ha q hq=>by
 obtain⟨K,h1,h2⟩:=aNe ok;rw[X7 ok] at ha;have h3:=U5 (M:=qT x) (b:=K+3) (N7 ok) (h2.bd.mono (by omega)) (by omega) a ha q hq;rw[h2.len] at h3;have h4:4^(aA x).length<=4^8:=Nat.pow_le_pow_right (by decide) (fN ok h8);have h5:K+3<=198:=by have:=ok.l2;omega
 have h6:4^(aA x).length*(K+3)<=4^8*198:=Nat.mul_le_mul h4 h5;omega
theorem aDd(ok:bJ x)(h8:x.nodes.length<=8)(hl:lf.length=aH x)(hq:∀q∈lf,bE q<=20000000)(hi:i<(aA x).length):bE (CJ x lf i)<=400000000:=by
 have hn:=fN ok h8;obtain⟨a,ha⟩:∃a,(yP x)[i]?=some a:=eE (by rw[(AN ok).1];exact hi);have uH:=(AN ok).2 a (bS ha);have hr:∀q∈xD x lf,bE q<=20000000:=fun q h=>by
  unfold xD at h;obtain⟨f,hf,rfl⟩:=List.mem_map.1 h;exact hq _ (bS (bC (by rw[hl];exact sO hf)))
 have h:=mS (ys:=xD x lf) uH (QL ok h8 a (bS ha)) hr (aA x).length lR;rw[nT (by rw[List.length_zipWith];omega)] at h;unfold CJ;rw[dH,ha];show bE (rN _)<=_;have:(aA x).length*(2*20000000+1)<=8*(2*20000000+1):=Nat.mul_le_mul_right _ hn;simp only[Option.getD_some];omega
theorem PJ(ok:bJ x)(h8:x.nodes.length<=8)(hl:lf.length=aH x)(hq:∀q∈lf,bE q<=20000000):∀k:Nat,k<=(aA x).length->∀q∈qD (aA x) (CJ x lf) (kT (aH x)) k,bE q<=400000000
 | 0,_=>fun q h=>by rw[List.eq_of_mem_replicate h];exact b_ (dP 0 (by decide) (by decide)) (by decide)
 | k+1,hk=>fun q h=>by
  unfold qD at h;rcases List.mem_or_eq_of_mem_set h with e | e
  ·exact PJ ok h8 hl hq k (by omega) q e
  ·rw[e];exact aDd ok h8 hl hq (by omega)
end
section
open Go.ChangeShapes Go.WideShapes Go.ChangeAt Go.RowKit
attribute [local go_sem ↓] aE
attribute [local go_sem] aL aK aO a_
theorem ZG(ok:bJ x)(hi:i<x.nodes.length):(kS x)[i]?=some (qR x i:Int)/\qR x i<aH x:=by
 obtain⟨h1,h2⟩:=mU ok;have hl:i<(kS x).length:=by rw[h1];exact hi
 have hm:=h2 _ (List.getElem_mem hl);have ht:=(FK (kS x)).2.1 _ (List.getElem_mem hl);have hb:=(eW ok).1;have e:(kS x).getD i 0=(kS x)[i]:=by rw[dH,gS hl];rfl
 unfold qR;rw[e,gS hl]
 constructor
 ·congr 1
  omega
 ·omega
theorem aAX(n:Nat):madeCells #[Value.int .i64 0] n=(ints (List.replicate n 0)).toArray:=by
 apply Array.ext';rw[toList_madeCells_one];unfold ints;simp
theorem dD.lower{b2:Nat}{vs:List Rv}(h:dD w base v vs qs)(hb:b2<=base):dD w b2 v vs qs:=
 ⟨⟨h.own.1,h.own.2.imp id fun⟨g,cap,cur,h1,h2,h3⟩=>⟨g,cap,cur,h1,b_ hb h2,h3⟩⟩,h.len,h.ok⟩
def aRB(x:bK)(ps:List Int)(w:Wo)(e:Ending)(w':Wo):Prop:=Below w.heap.size w w'/\∃v us,e=.returned v/\dD w' w.heap.size v us (xF x ps)
theorem aAT(g:Nat)(m:iC)(y:Value)(x:bK)(ok:bJ x)(A:OA)(n c:Nat)(ps:List Int)(w:Wo)(hg:aD w g 122 (m.cells y))(hr:eK w w.heap.size m x)(hp:pK w w.heap.size A n ps)(hn:n=x.nodes.length)(hz:∀p∈ps,-100000<=p/\p<=100000):Calls Tryz.prog 57 #[.pointer (some ⟨g,0,none⟩),.slice A n c] w (aRB x ps w):=by
 obtain⟨HG,HR,HP,bM⟩:=h_ hg hr hp ok;have BL:Hid (ps.length=n):=lH hp.len;have aSD:Hid (n<=24):=lH (by rw[hn];exact ok.l0);have FF:=lH hn;have HAB:=lH (I0 (x:=x) hz);have HZ:=lH hz;have eY:Hid (m.n1=aH x):=lH (by rw[<-hr.r1.len];exact qE ok);have JY:Hid (aH x<=24):=lH (b_ (eW ok).2 ok.l0);have BZ:=lH (nJ g m y w hg);rw[eY.o] at BZ;clear hg hr hp ok hn hz;have hnb:=JY.o;have s_:∀w:World,(Instr.makeSlice 30 (.int .i64 (aH x:Int)) (.int .i64 (aH x:Int))).run Tryz.prog w=.ok (.slice (some ⟨w.heap.size,0,none⟩) (aH x) (aH x)) (w.alloc (.cells (ints (List.replicate (aH x) 0)).toArray 3)):=fun w=>by
  rw[run_make_row' (P:=Tryz.prog) 30 3 (.int .i64 0) 8 Tryz.underlying30 QT rfl .i64 .i64 (aH x) (by omega) (by omega) w,aAX]
 go_enter Tryz.func57,Tryz.ntmps57
 go_wp2_with fail
 refine BZ.o.mono ?_;rintro e w1 ⟨rfl,rfl⟩;have HG0:Hid (aD (w.alloc (.cells (ints (List.replicate (aH x) 0)).toArray 3)) w.heap.size 3 (ints (uE x ps 0)).toArray):=lH (by rw[WF];exact aD.new w _ _);have HZ0:=lH ((Below.refl w.heap.size w).alloc lR (.cells (ints (List.replicate (aH x) 0)).toArray 3))
 go_wp2_with fail
 clear s_;generalize w.alloc (.cells (ints (List.replicate (aH x) 0)).toArray 3)=w5 at *;obtain⟨gi,hgi⟩:∃gi,gi=w.heap.size:=⟨_,rfl⟩;rw[<-hgi] at HG0 HZ0 ⊢;have HGI:=lH hgi;clear hgi
 go_loopw [16] (fun v16 wr=>∃i:Nat,i<=n/\v16=.int .i64 i/\aD wr gi 3 (ints (uE x ps i)).toArray/\Below gi w wr) (fun v16 _=>n-(intOf v16).toNat)
 case atStart=>exact⟨0,by omega,rfl,HG0.o,HZ0.o⟩
 case round=>
  obtain⟨i,hi,rfl,hb,hw⟩:=hrel;have zJ:=lH hb;have oU:Hid (Below w.heap.size w wr):=lH (by rw[<-HGI.o];exact hw);clear hb hw;by_cases aR:i<n
  ·obtain⟨p,hp⟩:∃p,ps[i]?=some p:=eE (by have:=BL.o;omega)
   obtain⟨E_,hbn⟩:=ZG bM.o (i:=i) (by rw[<-FF.o];exact aR);have hpr:=HP.o.below oU.o lR;obtain⟨pb,po,hA,hpb,-⟩:=hpr.2 (by omega);subst hA;have cp:=hpr.at_ hp;have gC:=(HR.o.below oU.o lR).r0;obtain⟨bb,bo,hA0,yZ,-⟩:=gC.2 (by have:=gC.len;have:=(mU bM.o).1;have:=FF.o;omega);have cb:=(show pK wr w.heap.size (some ⟨bb,bo,none⟩) m.n0 (kS x) by rw[<-hA0];exact gC).at_ E_;have y0:=(HG.o.bl oU.o).cell 0;have yl:=(HG.o.bl oU.o).lt;replace y0:wr.cell? ⟨g,0,none⟩=some (.slice (some ⟨bb,bo,none⟩) m.n0 m.c0):=by rw[<-hA0];exact y0
   have cs:wr.cell? ⟨gi,qR x i,none⟩=some (.int .i64 (BF x ps i (qR x i))):=by
    rw[zJ.o.cell,List.getElem?_toArray];unfold ints;rw[lT,vP hbn];rfl
   have gl:=zJ.o.lt;have gf:=zJ.o.frozen;have lO:=HAB.o i (qR x i);have hpz:=HZ.o p (bS hp);have aMl:=aSD.o;have gZ:=lH (aBL hp hbn);have hwz:IntKind.i64.wrap (BF x ps i (qR x i)+p)=BF x ps i (qR x i)+p:=F8 (by omega) (by omega);have VJ:(m.n0:Int)=(n:Int):=by have:=gC.len;have:=(mU bM.o).1;have:=FF.o;omega
   have BS:(i:Int)<(n:Int):=by omega
   have iW:=lZ i;have lE:=jM i;have hbI:(qR x i:Int)<(aH x:Int):=by omega
   have IL:(0:Int)<=(qR x i:Int):=by omega
   have hbt:(qR x i:Int).toNat=qR x i:=jM _;have kL:=lN i;have iR:Hid (n-(i+1)<n-i):=lH (by omega);have xW:pb<wr.heap.size:=kA hpb oU.o.size;have qL:bb<wr.heap.size:=kA yZ oU.o.size;clear hp E_ hbn hpr hpb gC hA0 yZ lO hpz;rw[VJ.symm] at BS;(go_wp2_with fail);go_roundw
   case rel=>exact⟨i+1,aR,aQ kL.o,zJ.o.set_at _ (by rw[<-gZ.o];unfold ints;rw[List.map_set];simp),(show Below gi w wr from by rw[HGI.o];exact oU.o).setCell lR _⟩
   case measure=>exact iR.o
  ·have EH:i=n:=by omega
   have HBE:Hid (aD wr gi 3 (ints (uE x ps ps.length)).toArray):=lH (by rw[BL.o,<-EH];exact zJ.o);have BS:¬(i:Int)<(n:Int):=by omega
   have hnb:=JY.o;clear EH;obtain⟨w6,rP⟩:∃w6,w6=wr:=⟨_,rfl⟩;rw[<-rP] at HBE oU ⊢;have gQ:=lH oU.o;clear rP;(go_wp2_with fail)
   go_loopw [8,38] (fun v8 v38 wr=>∃(k:Nat)(us:List Rv),k<=aH x/\v38=.int .i64 k/\dD wr w6.heap.size v8 us ((xF x ps).take k)/\Below w6.heap.size w6 wr) (fun _ v38 _=>aH x-(intOf v38).toNat)
   case atStart=>exact⟨0,[],by omega,rfl,kC _ _,bR⟩
   case round=>
    obtain⟨k,us,hk,rfl,ho,hw⟩:=hrel;have HO:=lH ho;have J1:=lH hw;clear ho hw;by_cases hlk:k<aH x
    ·have hz:=vP (x:=x) (ps:=ps) (i:=ps.length) hlk
     have hb:=HBE.o.bl J1.o;obtain⟨z,l_⟩:∃z,BF x ps ps.length k=z:=⟨_,rfl⟩;rw[l_] at hz;have cz:wr.cell? ⟨gi,k,none⟩=some (.int .i64 z):=by
      rw[hb.cell,List.getElem?_toArray];unfold ints;rw[lT,hz];rfl
     have gl:=hb.lt;have lO:=HAB.o ps.length k;rw[l_] at lO;have xW:=BL.o;have aMl:=aSD.o;have HZB:Hid (-9223372036854775808<=z/\z<=9223372036854775807):=lH (by omega);have EQ:Hid ((xF x ps).take (k+1)=(xF x ps).take k++[((z:Int):Rat)]):=lH (gJ (by unfold xF;rw[lT,hz];rfl));have f_:(k:Int)<(aH x:Int):=by omega
     have kO:=lZ k;have rR:=jM k;have kL:=lN k;have iR:Hid (aH x-(k+1)<aH x-k):=lH (by omega);clear hz hb lO l_ xW aMl;(go_upto_region 11 with fail);clear cz gl f_ kO rR;(go_wp2_with fail);refine(pV z wr HZB.o.1 HZB.o.2).mono ?_;rintro e v1 ⟨bO,r7,rfl,h7⟩;have pL:Hid (Below wr.heap.size wr v1):=lH bO;have H7:=lH h7;have W8:Hid (((xF x ps).take k).length<=1000000):=lH (by rw[jN];omega);clear bO h7
     go_wp2_with (at_builtin;refine rC rfl (.tmp 42) (.tmp 45) _ rfl w6.heap.size Tryz.underlying93 _ us _ rfl (HO.o.keep pL.o) r7 _ H7.o rfl (by have:=W8.o;omega) (b_ J1.o.size pL.o.size) ?_)
     intro v' w9 aW E7 hob;have BY:=lH aW;have fH:=lH ((J1.o.tm pL.o).trans hob);clear aW E7 hob;(go_wp2_with fail);go_roundw
     case rel=>exact⟨k+1,us++[r7],hlk,aQ kL.o,by rw[EQ.o];exact BY.o,fH.o⟩
     case measure=>exact iR.o
    ·have mL:k=aH x:=by omega
     have ML:Hid (dD wr w6.heap.size u8 us (xF x ps)):=lH (by
      have h:=HO.o;rw[nT (by rw[AO];omega)] at h;exact h)
     have f_:¬(k:Int)<(aH x:Int):=by omega
     (go_wp2_with fail);go_ret;exact⟨gQ.o.tm J1.o,_,_,rfl,ML.o.lower gQ.o.size⟩
def aRr(q:List Rat)(w:Wo)(e:Ending)(w':Wo):Prop:=Below w.heap.size w w'/\∃(g:Nat)(vs:List Rv),e=.returned (.slice (some ⟨g,0,none⟩) q.length q.length)/\w.heap.size<=g/\Vb w' g vs q
theorem aEb(g:Nat)(m:iC)(A7:OA)(c7:Nat)(x:bK)(ok:bJ x)(h8:x.nodes.length<=8)(A:OA)(n c:Nat)(lf:List Rat)(w:Wo)(hg:aD w g 122 (m.cells (.slice A7 (aA x).length c7)))(hr:eK w w.heap.size m x)(hi:jP w w.heap.size A7 (aA x).length (yP x))(hq:iE w w.heap.size A n lf)(hn:n=aH x)(hz:∀q∈lf,bE q<=20000000):Calls Tryz.prog 95 #[.pointer (some ⟨g,0,none⟩),.slice A n c] w (aRr (PL x lf) w):=by
 obtain⟨HG,HR,HI,HQ,bM⟩:=iS hg hr hi hq ok;have HZ:=lH hz;have FF:=lH hn;have FG:Hid (m.n6=(aA x).length):=lH (by rw[<-hr.r6.len,eO]);have uR:Hid ((aA x).length<=8):=lH (fN ok h8);have JY:Hid (aH x<=8):=lH (b_ (eW ok).2 h8);have eY:Hid (m.n1=aH x):=lH (by rw[<-hr.r1.len];exact qE ok);have y6:=hg.cell 6;have yl:=hg.lt;obtain⟨A0,n0,c0,A1,n1,c1,A2,n2,c2,A3,n3,c3,A4,n4,c4,A5,n5,c5,A6,n6,c6⟩:=m;simp only[iC.cells] at HG FG eY y6;have e6:=FG.o;subst e6;have hf8:=uR.o;have s_:∀w:World,(Instr.makeSlice 93 (.int .i64 ((aA x).length:Int)) (.int .i64 ((aA x).length:Int))).run Tryz.prog w=.ok (.slice (some ⟨w.heap.size,0,none⟩) (aA x).length (aA x).length) (w.alloc (.cells (fI (List.replicate (aA x).length BQ)).toArray 115)):=fun w=>G7 _ (by omega) w
 have HK0:=lH ((Below.refl w.heap.size w).alloc lR (.cells (fI (List.replicate (aA x).length BQ)).toArray 115));clear hg hr hi hq ok hn hz;go_enter Tryz.func95,Tryz.ntmps95
 have HG0:=lH (aD.new w 115 (fI (List.replicate (aA x).length BQ)).toArray)
 go_wp2_with fail
 clear s_ y6 yl;generalize w.alloc (.cells (fI (List.replicate (aA x).length BQ)).toArray 115)=w5 at *;obtain⟨gr,hgr⟩:∃gr,gr=w.heap.size:=⟨_,rfl⟩;rw[<-hgr] at HG0 ⊢;have HGR:=lH hgr;clear hgr
 go_loopw [22] (fun v22 wr=>∃(i:Nat)(vs:List Rv),i<=(aA x).length/\v22=.int .i64 i/\vs.length=(aA x).length/\Below w.heap.size w wr/\aD wr gr 115 (fI vs).toArray/\kK wr vs ((xD x lf).take i)) (fun v22 _=>(aA x).length-(intOf v22).toNat)
 case atStart=>exact⟨0,_,by omega,rfl,qV,HK0.o,HG0.o,fun i q v h=>by simp at h⟩
 case round=>
  obtain⟨i,vs,hi,rfl,hvl,hb,hg,hI⟩:=hrel;obtain⟨HB,HGq,HIq,JW⟩:=h_ hb hg hI hvl;clear hb hg hI hvl;by_cases aR:i<(aA x).length
  ·obtain⟨f,hf⟩:∃f,(aA x)[i]?=some f:=⟨_,gS aR⟩
   have qK:=sO (bS hf);have pG:=(HR.o.below HB.o lR).r6;simp only at pG;obtain⟨fb,fo,hA6,aE1,-⟩:=pG.2 (by omega);subst hA6;have cf:=pG.at_ (eT hf);have hq:=(HQ.o.below HB.o lR).more HB.o.size;have hfn:f<n:=by rw[FF.o];exact qK
   obtain⟨qb,qo,hA,hqb⟩:=hq.form (by omega);subst hA;obtain⟨v,c0,c1,c2,c3,hV⟩:=hq.at_ (bC (l:=lf) (i:=f) (by rw[hq.len];exact hfn));have HV:=lH hV;obtain⟨x0,NO⟩:∃x0,vs[i]?=some x0:=eE (by have:=JW.o;omega);obtain⟨e0,e1,e2,e3⟩:=MZ HGq.o NO;have HX0:=lH NO;have gf:=HGq.o.frozen;have gl:=HGq.o.lt;have EQ:Hid ((xD x lf).take (i+1)=(xD x lf).take i++[vf lf f]):=lH (gJ (by unfold xD;rw[lT,hf];rfl));have BS:(i:Int)<((aA x).length:Int):=by omega
   have iW:=lZ i;have lE:=jM i;have hfI:(f:Int)<(n:Int):=by omega
   have YL:=lZ f;have aVU:=jM f;have kL:=lN i;have iR:Hid ((aA x).length-(i+1)<(aA x).length-i):=lH (by omega);have tB:fb<wr.heap.size:=kA aE1 HB.o.size;clear hf qK pG hq hV NO aE1;(go_wp2_with fail);go_roundw
   case rel=>exact⟨i+1,vs.set i v,aR,aQ kL.o,by rw[kV];exact JW.o,iQ (v:=v) HB.o (Nat.le_of_eq HGR.o.symm),aF6 HGq.o (cY.1 HX0.o).1 v,by
    rw[EQ.o];exact kK.put (v:=v) HIq.o HGq.o HX0.o HV.o (XP (by rw[jN];unfold xD;rw[iT];omega))⟩
   case measure=>exact iR.o
  ·have EH:i=(aA x).length:=by omega
   have HRT:Hid (iE wr wr.heap.size (some ⟨gr,0,none⟩) (aA x).length (xD x lf)):=lH (by
    have h:=HIq.o;rw[nT (by unfold xD;rw[iT];omega)] at h;exact XW HGq.o JW.o (by unfold xD;rw[iT]) h)
   have BS:¬(i:Int)<((aA x).length:Int):=by omega
   clear EH hi;obtain⟨w6,rP⟩:∃w6,w6=wr:=⟨_,rfl⟩;rw[<-rP] at HB HRT ⊢;clear rP;obtain⟨gQ,TH,JX,HI6⟩:=h_ HB.o (HG.o.bl HB.o) (HR.o.up HB.o) (HI.o.bm HB.o);have sX:Hid (w.heap.size<=w6.heap.size):=lH HB.o.size;clear HB;(go_wp2_with fail);refine(nJ g ⟨A0,n0,c0,A1,n1,c1,A2,n2,c2,A3,n3,c3,A4,n4,c4,A5,n5,c5,A6,(aA x).length,c6⟩ (.slice A7 (aA x).length c7) w6 TH.o).mono ?_;rintro e w6b ⟨rfl,rfl⟩;have e1:=eY.o;subst e1;(go_wp2_with fail);refine(lS (aH x) w6 (by have:=JY.o;omega)).mono ?_;rintro e w7 ⟨iA,ga,va,rfl,EJ,qM,hva⟩;obtain⟨HVA,EU,lG⟩:=dZ (MT qM hva) EJ iA;have y6:=(TH.o.bl iA).cell 6;have yl:=(TH.o.bl iA).lt;clear iA EJ qM hva;(go_wp2_with fail);clear y6 yl
   go_loopw [43] (fun v43 wr=>∃(i:Nat)(us:List Rv),i<=(aA x).length/\v43=.int .i64 i/\Vb wr ga us (qD (aA x) (CJ x lf) (kT (aH x)) i)/\Below w6.heap.size w6 wr) (fun v43 _=>(aA x).length-(intOf v43).toNat)
   case atStart=>exact⟨0,_,Nat.zero_le _,rfl,HVA.o,lG.o⟩
   case round=>
    obtain⟨i,us,hi,rfl,hv,hb⟩:=hrel;have DR:=lH hv;have HB:=lH hb;clear hv hb;by_cases lE:i<(aA x).length
    ·obtain⟨f,hf⟩:∃f,(aA x)[i]?=some f:=⟨_,gS lE⟩
     have qK:=sO (bS hf);have pG:=(JX.o.below HB.o lR).r6;simp only at pG;obtain⟨fb,fo,hA6,aE1,-⟩:=pG.2 (by omega);subst hA6;have cf:=pG.at_ (eT hf);have hqi:=(HI6.o.below HB.o lR).more HB.o.size;obtain⟨row,gN⟩:∃row,(yP x)[i]?=some row:=eE (by rw[(AN bM.o).1];exact lE);have sM:=(AN bM.o).2 row (bS gN);obtain⟨mb,mo,hA7,hmb⟩:=hqi.form (by omega);subst hA7;obtain⟨⟨qa,qn,qc⟩,q0,q1,q2,q3⟩:=hqi.at_ gN;dsimp only at q0 q1 q2 q3;have hqn:(aA x).length=qn:=by rw[<-q1.len];exact sM.symm
     subst hqn;have FD:=lH q1;have tC:=lH (QL bM.o h8 row (bS gN));have HRQ:Hid (∀q∈xD x lf,bE q<=20000000):=lH fun q h=>by
      unfold xD at h;obtain⟨f,hf,rfl⟩:=List.mem_map.1 h;by_cases tB:f<lf.length
      ·exact HZ.o _ (bS (bC tB))
      ·unfold vf
       rw[dH,List.getElem?_eq_none (by omega)];exact b_ (dP 0 (by decide) (by decide)) (by decide)
     have HED:Hid (iM row (xD x lf)=CJ x lf i):=lH (by
      unfold CJ;rw[dH,gN];rfl)
     have aXw:=lH (HRT.o.bm HB.o);have y6:=(TH.o.bl HB.o).cell 7;have yl:=(TH.o.bl HB.o).lt;have BS:(i:Int)<((aA x).length:Int):=by omega
     have iW:=lZ i;have aIT:=jM i;have hfI:(f:Int)<(aH x:Int):=by omega
     have YL:=lZ f;have aVU:=jM f;have kL:=lN i;have iR:Hid ((aA x).length-(i+1)<(aA x).length-i):=lH (by omega);have tB:fb<wr.heap.size:=kA aE1 HB.o.size;have Q5:mb<wr.heap.size:=kA hmb lR;have HF:=lH hf;have wY:=lH qK;clear hf qK pG hqi gN sM aE1 hmb q1 q2 q3;(go_wp2_with fail);refine(A_ qa (aA x).length qc (some ⟨gr,0,none⟩) (aA x).length (aA x).length row (xD x lf) 20000000 wr FD.o aXw.o lR (by omega) tC.o HRQ.o (by omega)).mono ?_;rintro e w8 ⟨fJ,v8,rfl,h8⟩;rw[HED.o] at h8;obtain⟨dS,H8,HVq⟩:=dZ fJ h8 (DR.o.up fJ);have rS:f<(qD (aA x) (CJ x lf) (kT (aH x)) i).length:=by rw[oE];unfold kT;rw[qV];exact wY.o
     obtain⟨xe',hx',c0,c1',c2',c3',l1,f1⟩:=HVq.o.elem (j:=f) rS;have HJL:=lH rS;clear fJ h8 hx' rS q0 cf y6 yl tB Q5;(go_wp2_with fail);go_roundw
     case rel=>exact⟨i+1,_,lE,aQ kL.o,by
      have h:=HVq.o.put (j:=f) (x:=v8) HJL.o H8.o;have e:qD (aA x) (CJ x lf) (kT (aH x)) (i+1)=(qD (aA x) (CJ x lf) (kT (aH x)) i).set f (CJ x lf i):=by
       show(qD (aA x) (CJ x lf) (kT (aH x)) i).set ((aA x).getD i 0) (CJ x lf i)=_;rw[dH,HF.o];rfl
      rw[e];exact h,iQ (v:=v8) (HB.o.tm dS.o) EU.o⟩
     case measure=>exact iR.o
    ·have EH:i=(aA x).length:=by omega
     have HVE:Hid (Vb wr ga us (PL x lf)):=lH (by have h:=DR.o;rw[EH] at h;exact h);have BS:¬(i:Int)<((aA x).length:Int):=by omega
     (go_wp2_with fail);go_ret;exact⟨gQ.o.tm HB.o,ga,us,by rw[GO];rfl,b_ sX.o EU.o,HVE.o⟩
theorem aEk{x v y:Rv}{r:Rat}(h0:w.cell? ⟨g,j*4,none⟩=some (.bool x.b1))(h1:w.cell? ⟨g,j*4+1,none⟩=some (.slice x.A x.n x.c))(h2:w.cell? ⟨g,j*4+2,none⟩=some (.bool x.b2))(h3:w.cell? ⟨g,j*4+3,none⟩=some (.slice x.A2 x.m x.d))(hy:cU w w.heap.size r y):cU (eG w g j v) (eG w g j v).heap.size r y:=by
 have k0:=cQ.keep hy h0 (fun k x e=>by cases e) (.bool v.b1);have c1:(w.setCell ⟨g,j*4,none⟩ (.bool v.b1)).cell? ⟨g,j*4+1,none⟩=some (.slice x.A x.n x.c):=by
  rw[World.cell?_setCell_other _ _ _ _ (fun e=>by injection e with e1 e2;omega)];exact h1
 have k1:=cQ.keep k0 c1 (fun k x e=>by cases e) (.slice v.A v.n v.c);have c2:((w.setCell ⟨g,j*4,none⟩ (.bool v.b1)).setCell ⟨g,j*4+1,none⟩ (.slice v.A v.n v.c)).cell? ⟨g,j*4+2,none⟩=some (.bool x.b2):=by
  rw[World.cell?_setCell_other _ _ _ _ (fun e=>by injection e with e1 e2;omega),World.cell?_setCell_other _ _ _ _ (fun e=>by injection e with e1 e2;omega)];exact h2
 have k2:=cQ.keep k1 c2 (fun k x e=>by cases e) (.bool v.b2);have c3:(((w.setCell ⟨g,j*4,none⟩ (.bool v.b1)).setCell ⟨g,j*4+1,none⟩ (.slice v.A v.n v.c)).setCell ⟨g,j*4+2,none⟩ (.bool v.b2)).cell? ⟨g,j*4+3,none⟩=some (.slice x.A2 x.m x.d):=by
  rw[World.cell?_setCell_other _ _ _ _ (fun e=>by injection e with e1 e2;omega),World.cell?_setCell_other _ _ _ _ (fun e=>by injection e with e1 e2;omega),World.cell?_setCell_other _ _ _ _ (fun e=>by injection e with e1 e2;omega)];exact h3
 exact cQ.keep k2 c3 (fun k x e=>by cases e) (.slice v.A2 v.m v.d)
theorem dD.elem{c:Nat}{A:OA}{us:List Rv}(h:dD w base (.slice A n c) us qs)(hj:j<qs.length):∃g x,A=some ⟨g,0,none⟩/\n=qs.length/\base<=g/\g<w.heap.size/\(∀o,w.frozen? ⟨g,o,none⟩=false)/\
    w.cell? ⟨g,j*4,none⟩=some (.bool x.b1)/\w.cell? ⟨g,j*4+1,none⟩=some (.slice x.A x.n x.c)/\w.cell? ⟨g,j*4+2,none⟩=some (.bool x.b2)/\w.cell? ⟨g,j*4+3,none⟩=some (.slice x.A2 x.m x.d)/\cU w w.heap.size (vf qs j) x/\
    ∀(v:Rv)(p:Rat),cU w w.heap.size p v->dD (eG w g j v) base (.slice A n c) (us.set j v) (qs.set j p):=by
 obtain⟨h1,h2,h3⟩:=h;have hju:j<us.length:=by rw[h2];exact hj
 obtain⟨x,hx⟩:∃x,us[j]?=some x:=⟨_,gS hju⟩;rcases h1.2 with⟨e1,e2⟩ | ⟨g,cap,cur,e1,e2,hb,e4,e5,e6,e7,e8⟩
 ·omega
 injection e1 with f1 f2 f3;have hc:∀i u,i<4->x.cells[i]?=some u->cur.toList[j*4+i]?=some u:=fun i u hi hu=>by
  have:=tI hx i hi;rw[<-e7,List.getElem?_take,hu] at this;split at this
  ·exact this
  ·cases this
 have jI:∀i u,i<4->x.cells[i]?=some u->w.cell? ⟨g,j*4+i,none⟩=some u:=fun i u hi hu=>by
  rw[hb.cell,<-Array.getElem?_toList];exact hc i u hi hu
 refine⟨g,x,f1,by rw[f2,h2],e2,hb.lt,fun o=>hb.frozen o,jI 0 _ (by decide) rfl,jI 1 _ (by decide) rfl,jI 2 _ (by decide) rfl,jI 3 _ (by decide) rfl,h3 j _ x (bC hj) hx,fun v p hv=>?_⟩;have B0:=hb;have B1:=B0.set_ (j*4) (.bool v.b1);have B2:=B1.set_ (j*4+1) (.slice v.A v.n v.c);have B3:=B2.set_ (j*4+2) (.bool v.b2);have B4:=B3.set_ (j*4+3) (.slice v.A2 v.m v.d);have keep:∀(y:Rv)(r:Rat),cU w w.heap.size r y->cU (eG w g j v) (eG w g j v).heap.size r y:=fun y r hy=>aEk (jI 0 _ (by decide) rfl) (jI 1 _ (by decide) rfl) (jI 2 _ (by decide) rfl) (jI 3 _ (by decide) rfl) hy;refine⟨⟨by rw[dW],.inr ⟨g,cap,_,by rw[f1,f2,f3,kV],e2,B4,by rw[kV];exact e4,e5,by simp only[Array.size_setIfInBounds];exact e6,?_,fun u hu=>?_⟩⟩,by rw[kV,kV,h2],fun i q y hq hy=>?_⟩
 ·simp only[Array.toList_setIfInBounds]
  rw[kV,kX _ _ _ _ (by omega),kX _ _ _ _ (by omega),kX _ _ _ _ (by omega),kX _ _ _ _ (by omega),e7];exact FO us j v hju
 ·simp only[Array.toList_setIfInBounds] at hu
  rcases List.mem_or_eq_of_mem_set hu with hu | rfl
  ·rcases List.mem_or_eq_of_mem_set hu with hu | rfl
   ·rcases List.mem_or_eq_of_mem_set hu with hu | rfl
    ·rcases List.mem_or_eq_of_mem_set hu with hu | rfl
     ·exact e8 u hu
     ·exact fun k x e=>by cases e
    ·exact fun k x e=>by cases e
   ·exact fun k x e=>by cases e
  ·exact fun k x e=>by cases e
 ·by_cases e:j=i
  ·subst e
   rw[List.getElem?_set,if_pos rfl,if_pos hj] at hq;rw[List.getElem?_set,if_pos rfl,if_pos hju] at hy;injection hq with hq;injection hy with hy;subst hq;subst hy;exact keep _ _ hv
  ·rw[List.getElem?_set,if_neg e] at hq hy
   exact keep _ _ (h3 i q y hq hy)
theorem MS{ops:Array Oper}{rest:List Oper}{o:Oper}{a:Act}{Q:Exit->Act->World->Prop}{w:Wo}(yW:o.guard=none)(s x:Operand)(t:TypeId)(ho:o.op=.call { callee:=.builtin .append,args:=#[s,x],argTypes:=#[t,t] })(base:Nat)(ht:Tryz.prog.underlying t=some (.slice 115))(v:Value)(hs:a.eval s=v)(aW:bB o9 w base 115 4 v 0 [])(A:OA)(m c:Nat)(qs:List Rat)(hx:a.eval x=.slice A m c)(hr:iE w w.heap.size A m qs)(uO:m<=1000000)(cD:base<=w.heap.size)(h:∀A' c' us w',dD w' base (.slice A' m c') us qs->Below base w w'->wpList Tryz.prog ops Q rest (a.put o.dst (.slice A' m c')) w'):wpList Tryz.prog ops Q (o::rest) a w:=by
 obtain⟨i0,iW,qY,kF,kE⟩:=pP;obtain⟨vs,h1,h2,h3,h4⟩:=hr;refine nV (S:=o9) yW s x t ho base 115 i0 _ 4 64 ht iW qY kF kE rfl (by omega) uS v 0 [] hs aW A m c (fI vs) hx h3 (fun u hu=>?_) (by simp only[maxLen];omega) (by omega) cD fun v' w' g1 g2 _ _=>?_
 ·unfold fI at hu
  obtain⟨y,-,hy⟩:=List.mem_flatMap.1 hu;exact CL y u hy
 ·rw[Nat.zero_add,List.nil_append] at g1
  obtain⟨A',c',e,-⟩:=bB.shape g1;subst e;exact h A' c' vs w' ⟨by rw[h1];exact g1,by rw[h1,h2],fun i q y hq hy=>(h4 i q y hq hy).keeps g2⟩ g2.low
theorem aAI:bB o9 (w.alloc (.cells #[] 115)) w.heap.size 115 4 (.slice (some ⟨w.heap.size,0,none⟩) 0 0) 0 []:=
 ⟨rfl,.inr ⟨w.heap.size,0,#[],rfl,lR,aD.new w _ _,lR,by simp[maxLen],rfl,rfl,fun u hu=>by simp at hu⟩⟩
theorem WD(A:OA)(n c:Nat)(qs:List Rat)(w:Wo)(hr:iE w w.heap.size A n qs)(hn:n<=1000000):Calls Tryz.prog 94 #[.slice A n c] w fun e w'=>Below w.heap.size w w'/\∃A' c' us,e=.returned (.slice A' n c')/\dD w' w.heap.size (.slice A' n c') us qs:=by
 have q22:∀(w:Wo)(a:OA)(n c n' c':Nat),(binOp .eql 93 (.slice a n c) (.slice none n' c')).run Tryz.prog w=.ok (.bool a.isNone) w:=fun w a n c n' c'=>Lib.run_eql_slice_nil w _ _ a n c n' c' Tryz.underlying93;have HR:=lH hr;cases A with
 | none=>
  have h0:n=0:=by
   rcases Nat.eq_zero_or_pos n with h | h
   ·exact h
   ·obtain⟨b,off,e,_⟩:=hr.form h;cases e
  subst h0;have aBa:qs=[]:=List.eq_nil_of_length_eq_zero hr.len;subst aBa;clear hr;go_enter Tryz.func94,Tryz.ntmps94
  (go_wp2_with fail);go_ret;exact⟨bR,none,0,[],rfl,kC _ _⟩
 | some ad=>
  clear hr;have hz:=jO w (.cells #[] 115);have HZ:=lH hz;clear hz;go_enter Tryz.func94,Tryz.ntmps94
  go_wp2_with (at_builtin;refine MS rfl _ _ 93 rfl w.heap.size Tryz.underlying93 _ rfl aAI (some ad) n c qs rfl ?qc1 ?qc2 ?qc3 ?_)
  case qc1=>exact(HR.o.below HZ.o lR).more HZ.o.size
  case qc2=>exact hn
  case qc3=>exact HZ.o.size
  intro A' c' us w' ho hb;have HO:=lH ho;have HB:=lH (HZ.o.trans hb);clear ho hb;(go_wp2_with fail);go_ret;exact⟨HB.o,A',c',us,rfl,HO.o⟩
theorem aAR(g:Nat)(m:iC)(A7:OA)(c7:Nat)(x:bK)(ok:bJ x)(h8:x.nodes.length<=8)(A:OA)(n c:Nat)(qs:List Rat)(w:Wo)(hg:aD w g 122 (m.cells (.slice A7 (aA x).length c7)))(hr:eK w w.heap.size m x)(hi:jP w w.heap.size A7 (aA x).length (yP x))(hq:iE w w.heap.size A n qs)(hn:n=aH x)(hz:∀q∈qs,bE q<=1000):Calls Tryz.prog 56 #[.pointer (some ⟨g,0,none⟩),.slice A n c] w (aRr (PL x (pF x qs x.brs.length)) w):=by
 obtain⟨HG,HR,HI,HQ,bM⟩:=iS hg hr hi hq ok;have FF:=lH hn;have lP:Hid (qs.length=aH x):=lH (by rw[<-hn];exact hq.len);have OG:Hid (∀k,k<=x.brs.length->∀q∈pF x qs k,bE q<=1200):=lH fun k hk q hq=>by
  have h1:=NJ ok lP.o hz k hk q hq;have:=ok.l2;omega
 have uF:Hid (∀k,k<=x.brs.length->(pF x qs k).length=aH x):=lH fun k hk=>by rw[FT k hk];exact lP.o
 have m8:Hid (x.brs.length=m.n4):=lH (by rw[<-oW];exact hr.r4.len);have oS:Hid (x.brs.length=m.n5):=lH (by rw[<-NH];exact hr.r5.len);have iD:Hid (x.brs.length=m.n2):=lH (by rw[<-lW,<-eO];exact hr.r2.len);have tY:Hid (x.brs.length=m.n3):=lH (by rw[<-rG,<-eO];exact hr.r3.len);have JY:Hid (aH x<=24):=lH (b_ (eW ok).2 ok.l0);have aJ1:Hid (x.brs.length<=1000):=lH (by have:=ok.l2;omega);obtain⟨A0,n0,c0,A1,n1,c1,A2,n2,c2,A3,n3,c3,A4,n4,c4,A5,n5,c5,A6,n6,c6⟩:=m;simp only[iC.cells] at HG m8 oS iD tY;have e4:=m8.o;have e5:=oS.o;have e2:=iD.o;have e3:=tY.o;subst e4;subst e5;subst e2;subst e3;clear hg hr hi hq ok hz hn;go_enter Tryz.func56,Tryz.ntmps56
 go_wp2_with fail
 refine(WD A n c qs w HQ.o (by have:=FF.o;have:=JY.o;omega)).mono ?_;rintro e w1 ⟨bO,L,lc,us0,rfl,ho1⟩;have rU:=lH ho1;have cI:=lH bO;have y5:=(HG.o.bl bO).cell 5;have yl:=(HG.o.bl bO).lt;clear bO ho1
 go_wp2_with fail
 clear y5 yl
 go_loopw [15] (fun v15 wr=>∃(k:Nat)(us:List Rv),k<=x.brs.length/\v15=.int .i64 k/\dD wr w.heap.size (.slice L n lc) us (pF x qs k)/\Below w.heap.size w wr) (fun v15 _=>x.brs.length-(intOf v15).toNat)
 case atStart=>exact⟨0,us0,by omega,rfl,by rw[G9];exact rU.o,cI.o⟩
 case round=>
  obtain⟨k,us,hk,rfl,ho,hb⟩:=hrel;have HO:=lH ho;have HB:=lH hb;clear ho hb;by_cases aR:k<x.brs.length
  ·obtain⟨b,AT⟩:∃b,x.brs[k]?=some b:=⟨_,gS aR⟩
   obtain⟨a1,a2,a3,a4⟩:=jW AT;have KE:=bS AT;have qW:=lH (bM.o.br b KE);have HJ1:Hid (aG x b.fr<aH x):=lH (bU bM.o (bM.o.br b KE).1).2.1;have HJ2:Hid (aG x b.to<aH x):=lH (bU bM.o (bM.o.br b KE).2.1).2.1;have gZ:=lH (G_ (qs:=qs) AT);have HA1:=lH a1;have HA2:=lH a2;have xG:=(HR.o.bm HB.o).r5;simp only at xG;obtain⟨db,do',hA5,hdb⟩:=xG.form (by omega);subst hA5;obtain⟨xc,p0,p1,p2,p3,p4⟩:=xG.at_ a4;have f_:(k:Int)<(x.brs.length:Int):=by omega
   have kO:=lZ k;have rR:=jM k;have kL:=lN k;have iR:Hid (x.brs.length-(k+1)<x.brs.length-k):=lH (by omega);have TE:=lH p4;have uK:=lH aR;clear p4 xG AT KE a1 a2 a3 a4;obtain⟨g0,-,hL,-,wO,E8,-⟩:=HO.o.elem (j:=aG x b.fr) (by rw[uF.o k (by omega)];exact HJ1.o);subst hL;have OX:=lH wO;have sX:=lH E8;clear wO E8;(go_upto_region 5 with fail);clear p0 p1 p2 p3 hdb;have hz:=jO wr (.cells #[.bool xc.b1,.slice xc.A xc.n xc.c,.bool xc.b2,.slice xc.A2 xc.m xc.d] 115);have HCB:=lH (aD.new wr 115 #[.bool xc.b1,.slice xc.A xc.n xc.c,.bool xc.b2,.slice xc.A2 xc.m xc.d]);replace HO:=lH (HO.o.keep hz);replace TE:=lH (TE.o.up hz);have OY:=cJ HB hz;clear hz;generalize wr.alloc (.cells #[.bool xc.b1,.slice xc.A xc.n xc.c,.bool xc.b2,.slice xc.A2 xc.m xc.d] 115)=wa at *;generalize wr.heap.size=gq at *;have HRr:=lH (HR.o.bm OY.o);have EF:=HRr.o.r2;simp only at EF;obtain⟨fb,fo,hAf,qK,-⟩:=EF.2 (by omega);have f0:=(show pK wa wa.heap.size (some ⟨fb,fo,none⟩) x.brs.length (e_ (hO x)) by rw[<-hAf];exact EF).at_ (eT HA1.o);have yy:=(HG.o.bl OY.o).cell 2;have yl:=(HG.o.bl OY.o).lt;replace yy:wa.cell? ⟨g,2,none⟩=some (.slice (some ⟨fb,fo,none⟩) x.brs.length c2):=by rw[<-hAf];exact yy
   obtain⟨g1,x1,e,-,-,gl,gf,u0,u1,u2,u3,u4,-⟩:=HO.o.elem (j:=aG x b.fr) (by rw[(uF.o k (oO uK.o))];exact HJ1.o);injection e with e;injection e with e;subst e;have fB:=lH u4;have aB1:Hid (∀W2,Below wa.heap.size wa W2->∃x2:Rv,(∀o,W2.frozen? ⟨g0,o,none⟩=false)/\g0<W2.heap.size/\W2.cell? ⟨g0,aG x b.fr*4,none⟩=some (.bool x2.b1)/\W2.cell? ⟨g0,aG x b.fr*4+1,none⟩=some (.slice x2.A x2.n x2.c)/\W2.cell? ⟨g0,aG x b.fr*4+2,none⟩=some (.bool x2.b2)/\W2.cell? ⟨g0,aG x b.fr*4+3,none⟩=some (.slice x2.A2 x2.m x2.d)/\∀(v:Rv)(p:Rat),cU W2 W2.heap.size p v->dD (eG W2 g0 (aG x b.fr) v) w.heap.size (.slice (some ⟨g0,0,none⟩) n lc) (us.set (aG x b.fr) v) ((pF x qs k).set (aG x b.fr) p)):=lH fun W2 hb=>by
    obtain⟨g2,x2,e,-,-,b1,b2,b3,b4,b5,b6,-,b8⟩:=(HO.o.keep hb).elem (j:=aG x b.fr) (by rw[(uF.o k (oO uK.o))];exact HJ1.o);injection e with e;injection e with e;subst e;exact⟨x2,b2,b1,b3,b4,b5,b6,b8⟩
   obtain⟨z0,z1,z2,z3,zl⟩:=HCB.o.b4;have tA:=HJ1.o;have f_:(k:Int)<(x.brs.length:Int):=by have:=uK.o;omega
   have kO:=lZ k;have rR:=jM k;have LO:=FF.o;have i1:((aG x b.fr:Nat):Int)<(n:Int):=by omega
   have i10:(0:Int)<=((aG x b.fr:Nat):Int):=by omega
   have i1n:((aG x b.fr:Nat):Int).toNat=aG x b.fr:=jM _;have F3:Hid (bE (vf (pF x qs k) (aG x b.fr))+bE (jD b)+1<=35184372088832):=lH (by
    have h1:=OG.o k (oO uK.o) _ (bS (bC (l:=pF x qs k) (i:=aG x b.fr) (by rw[(uF.o k (oO uK.o))];exact HJ1.o)));have h2:=tW qW.o.2.2.2;omega)
   clear EF hAf u4 LO tA;refine kQ 21 (fun hHeld=>?_);simp only[m_,List.take_zero];refine cR [0,1,2,3,4,5,6,7,8,9,10,11,12,13,14,15,16,17,18] ?_;clear f0 yy yl u0 u1 u2 u3 z0 z1 z2 z3 zl f_ kO rR qK;have BU:=lH (aI (Below.refl wa.heap.size wa));generalize wa.drew=v0 at *;refine bI 19 (fun K hK=>?_);go_simp;refine(MW (fB.o.up BU.o) (TE.o.up BU.o) F3.o).mono ?_;rintro e v1 ⟨bO,r7,rfl,h7⟩;have pL:Hid (Below wa.heap.size wa v1):=lH (BU.o.tm bO);have H7:=lH h7;clear bO h7 BU;go_simp;refine iB hK pL.o (fun hHeld=>?_);clear hK K;refine cR [20] ?_;refine eP ?_;clear hHeld gl gf;obtain⟨x2,ff,fl,k0,k1,k2,k3,QZ⟩:=aB1.o v1 pL.o;have HOn:=lH (QZ r7 _ H7.o);have HBn:Hid (Below w.heap.size w (eG v1 g0 (aG x b.fr) r7)):=lH (iQ (v:=r7) (OY.o.tm pL.o) OX.o);clear QZ aB1;have HCn:Hid (aD (eG v1 g0 (aG x b.fr) r7) gq 115 #[.bool xc.b1,.slice xc.A xc.n xc.c,.bool xc.b2,.slice xc.A2 xc.m xc.d]):=lH ((HCB.o.bl pL.o).far4 r7 (by have:=sX.o;omega));have HXn:Hid (cU (eG v1 g0 (aG x b.fr) r7) (eG v1 g0 (aG x b.fr) r7).heap.size (jD b) xc):=lH (aEk k0 k1 k2 k3 (TE.o.up pL.o));have HQA:=lH (QM (x:=x) (b:=b) (OG.o k (oO uK.o)) (by rw[uF.o k (oO uK.o)];exact HJ1.o) qW.o.2.2.2);have HLA:Hid ((E2 x (pF x qs k) b).length=aH x):=lH (by rw[H_];exact uF.o k (oO uK.o));have HOA:Hid (dD (eG v1 g0 (aG x b.fr) r7) w.heap.size (.slice (some ⟨g0,0,none⟩) n lc) (us.set (aG x b.fr) r7) (E2 x (pF x qs k) b)):=lH HOn.o;clear HO OY HCB TE fB F3 pL H7 HOn;(go_upto_region 6 with fail);clear ff fl k0 k1 k2 k3;generalize NP:(((v1.setCell ⟨g0,aG x b.fr*4,none⟩ (.bool r7.b1)).setCell ⟨g0,aG x b.fr*4+1,none⟩ (.slice r7.A r7.n r7.c)).setCell ⟨g0,aG x b.fr*4+2,none⟩ (.bool r7.b2)).setCell ⟨g0,aG x b.fr*4+3,none⟩ (.slice r7.A2 r7.m r7.d)=wb;have HO:Hid (dD wb w.heap.size (.slice (some ⟨g0,0,none⟩) n lc) (us.set (aG x b.fr) r7) (E2 x (pF x qs k) b)):=lH (by rw[<-NP];exact HOA.o);have OY:Hid (Below w.heap.size w wb):=lH (by rw[<-NP];exact HBn.o);have HCB:Hid (aD wb gq 115 #[.bool xc.b1,.slice xc.A xc.n xc.c,.bool xc.b2,.slice xc.A2 xc.m xc.d]):=lH (by rw[<-NP];exact HCn.o);have TE:Hid (cU wb wb.heap.size (jD b) xc):=lH (by rw[<-NP];exact HXn.o);clear NP HBn HRr;generalize hus:us.set (aG x b.fr) r7=us2 at *;clear hus;have HRr:=lH (HR.o.bm OY.o);have DC:=HRr.o.r3;simp only at DC;obtain⟨fb,fo,hAf,qK,-⟩:=DC.2 (by omega);have f0:=(show pK wb wb.heap.size (some ⟨fb,fo,none⟩) x.brs.length (e_ (BR x)) by rw[<-hAf];exact DC).at_ (eT HA2.o);have yy:=(HG.o.bl OY.o).cell 3;have yl:=(HG.o.bl OY.o).lt;replace yy:wb.cell? ⟨g,3,none⟩=some (.slice (some ⟨fb,fo,none⟩) x.brs.length c3):=by rw[<-hAf];exact yy
   obtain⟨g1,x1,e,-,-,gl,gf,u0,u1,u2,u3,u4,-⟩:=HO.o.elem (j:=aG x b.to) (by rw[HLA.o];exact HJ2.o);injection e with e;injection e with e;subst e;have fB:=lH u4;have aB1:Hid (∀W2,Below wb.heap.size wb W2->∃x2:Rv,(∀o,W2.frozen? ⟨g0,o,none⟩=false)/\g0<W2.heap.size/\W2.cell? ⟨g0,aG x b.to*4,none⟩=some (.bool x2.b1)/\W2.cell? ⟨g0,aG x b.to*4+1,none⟩=some (.slice x2.A x2.n x2.c)/\W2.cell? ⟨g0,aG x b.to*4+2,none⟩=some (.bool x2.b2)/\W2.cell? ⟨g0,aG x b.to*4+3,none⟩=some (.slice x2.A2 x2.m x2.d)/\∀(v:Rv)(p:Rat),cU W2 W2.heap.size p v->dD (eG W2 g0 (aG x b.to) v) w.heap.size (.slice (some ⟨g0,0,none⟩) n lc) (us2.set (aG x b.to) v) ((E2 x (pF x qs k) b).set (aG x b.to) p)):=lH fun W2 hb=>by
    obtain⟨g2,x2,e,-,-,b1,b2,b3,b4,b5,b6,-,b8⟩:=(HO.o.keep hb).elem (j:=aG x b.to) (by rw[HLA.o];exact HJ2.o);injection e with e;injection e with e;subst e;exact⟨x2,b2,b1,b3,b4,b5,b6,b8⟩
   obtain⟨z0,z1,z2,z3,zl⟩:=HCB.o.b4;have tA:=HJ2.o;have f_:(k:Int)<(x.brs.length:Int):=by have:=uK.o;omega
   have kO:=lZ k;have rR:=jM k;have LO:=FF.o;have i1:((aG x b.to:Nat):Int)<(n:Int):=by omega
   have i10:(0:Int)<=((aG x b.to:Nat):Int):=by omega
   have i1n:((aG x b.to:Nat):Int).toNat=aG x b.to:=jM _;have F3:Hid (bE (vf (E2 x (pF x qs k) b) (aG x b.to))+bE (jD b)+1<=35184372088832):=lH (by
    have h1:=HQA.o _ (bS (bC (l:=E2 x (pF x qs k) b) (i:=aG x b.to) (by rw[HLA.o];exact HJ2.o)));have h2:=tW qW.o.2.2.2;omega)
   clear DC hAf u4 LO tA;refine kQ 21 (fun hHeld=>?_);simp only[m_,List.take_zero];refine cR [0,1,2,3,4,5,6,7,8,9,10,11,12,13,14,15,16,17,18] ?_;clear f0 yy yl u0 u1 u2 u3 z0 z1 z2 z3 zl f_ kO rR qK;have BU:=lH (aI (Below.refl wb.heap.size wb));generalize wb.drew=v0 at *;refine bI 19 (fun K hK=>?_);go_simp;refine(DO (fB.o.up BU.o) (TE.o.up BU.o) F3.o).mono ?_;rintro e v1 ⟨bO,r7,rfl,h7⟩;have pL:Hid (Below wb.heap.size wb v1):=lH (BU.o.tm bO);have H7:=lH h7;clear bO h7;go_simp;refine iB hK pL.o (fun hHeld=>?_);clear hK K;refine cR [20] ?_;refine eP ?_;clear hHeld gl gf;obtain⟨x2,ff,fl,k0,k1,k2,k3,QZ⟩:=aB1.o v1 pL.o;have HOn:=lH (QZ r7 _ H7.o);have HBn:Hid (Below w.heap.size w (eG v1 g0 (aG x b.to) r7)):=lH (iQ (v:=r7) (OY.o.tm pL.o) OX.o);clear QZ;have aQ8:=aJ1.o;have aR:k<x.brs.length:=uK.o;(go_wp2_with fail);go_roundw
   case rel=>exact⟨k+1,_,uK.o,aQ kL.o,by rw[gZ.o];exact HOn.o,HBn.o⟩
   case measure=>exact iR.o
  ·have mL:k=x.brs.length:=by omega
   subst mL;have f_:¬((x.brs.length:Nat):Int)<(x.brs.length:Int):=by omega
   obtain⟨L2,lc2,e,oP,-⟩:=HO.o.rd;have d8:=uF.o x.brs.length lR;rw[d8] at e oP;injection e with e1 e2 e3;subst e1;subst e3;have DS:Hid (iE wr wr.heap.size L n (pF x qs x.brs.length)):=lH (by rw[FF.o];exact oP);clear oP e2;(go_wp2_with fail);refine(aEb g ⟨A0,n0,c0,A1,n1,c1,A2,x.brs.length,c2,A3,x.brs.length,c3,A4,x.brs.length,c4,A5,x.brs.length,c5,A6,n6,c6⟩ A7 c7 x bM.o h8 L n lc (pF x qs x.brs.length) wr (HG.o.bl HB.o) (HR.o.up HB.o) (HI.o.bm HB.o) DS.o FF.o (fun q hq=>b_ (OG.o _ lR q hq) (by decide))).mono ?_;rintro e w9 ⟨gD,ga,vs,rfl,EJ,hv⟩;have fH:=cJ HB gD;have HV9:=lH hv;have EU:=lH (b_ HB.o.size EJ);clear gD hv EJ;(go_wp2_with fail);go_ret;exact⟨fH.o,ga,vs,rfl,EU.o,HV9.o⟩
end
section
open Go.ChangeShapes Go.WideShapes Go.ChangeAt Go.RowKit Go.Maps
attribute [local go_sem ↓] aE
attribute [local go_sem] aL aK aO a_
def uG(x:bK)(i:Nat):Int:=(DA x).getD (qR x i) 0
def rO(x:bK)(ps:List Int):Nat->Int->Int
 | 0,_=>0
 | i+1,k=>rO x ps i k+if uG x i=k then ps.getD i 0 else 0
theorem QN{x:bK}(n:Nat)(hz:∀i p,i<n->ps[i]?=some p->-100000<=p/\p<=100000)(hl:n<=ps.length):∀i:Nat,i<=n->∀k:Int,-(100000*(i:Int))<=rO x ps i k/\rO x ps i k<=100000*(i:Int)
 | 0,_,k=>by unfold rO;omega
 | i+1,hi,k=>by
  have ih:=QN (x:=x) n hz hl i (by omega) k;have hp:-100000<=ps.getD i 0/\ps.getD i 0<=100000:=by
   obtain⟨p,hp⟩:∃p,ps[i]?=some p:=eE (by omega);rw[dH,hp];exact hz i p (by omega) hp
  unfold rO;split<;>omega
def aNf(w:Wo)(b n:Nat)(x:bK)(ps:List Int)(i:Nat):Prop:=
 ∃D:DataW Unit,w.ownsMap Tryz.prog 3 (plainElem Tryz.prog 3) b n D/\IsMap D/\∀k:Int,D.atKey (.int .i64 k) (.lit (.int .i64 0))=.lit (.int .i64 (rO x ps i k))
theorem aPk(w:Wo):(zeroValue 3).run Tryz.prog w=.ok (.int .i64 0) w:=by kernel_rfl
theorem J8{w':Wo}{b:Nat}{D:DataW Unit}(h:w.ownsMap Tryz.prog 3 (plainElem Tryz.prog 3) b n D)(hb:Below w.heap.size w w'):w'.ownsMap Tryz.prog 3 (plainElem Tryz.prog 3) b n D:=h.kept (row:=none) ⟨hb.os,hb.tape,hb.output,hb.size,fun k hk _=>hb.block k hk⟩ (by simp)
theorem aHN{D:DataW Unit}(h2:IsMap D)(h3:∀k:Int,D.atKey (.int .i64 k) (.lit (.int .i64 0))=.lit (.int .i64 (rO x ps i k))){p:Int}(hp:ps[i]?=some p):IsMap (D.put (.int .i64 (uG x i)) (.lit (.int .i64 (rO x ps i (uG x i)+p))))/\∀k:Int,(D.put (.int .i64 (uG x i)) (.lit (.int .i64 (rO x ps i (uG x i)+p)))).atKey (.int .i64 k) (.lit (.int .i64 0))=.lit (.int .i64 (rO x ps (i+1) k)):=by
 refine⟨h2.put _ _,fun k=>?_⟩;have hg:ps.getD i 0=p:=by rw[dH,hp];rfl
 unfold rO;rw[hg];by_cases e:uG x i=k
 ·subst e
  rw[atKey_put_same h2 (k:=.int .i64 (uG x i)) trivial,if_pos rfl]
  try (cases i<;>rfl)
 ·rw[atKey_put_other (fun e2=>e (by injection e2 with _ e2;exact e2.symm)),h3,if_neg e,Int.add_zero]
  try (cases i<;>rfl)
theorem CB{P:Program}{o:Oper}{a:Act}{w:Wo}{K:Act->World->Prop}{Q:Exit->Act->World->Prop}(m x v:Operand)(t:TypeId)(hop:o.op=Op.mapUpdate t m x v)(k e:TypeId)(Kd:Keyed P k)(ht:P.underlying t=some (.map k e))(R:Value->Option (DataW Unit×List MemPlace))(b n:Nat)(D:DataW Unit)(hm:a.eval m=.map (some b))(aW:w.ownsMap P k R b n D)(hn:n<maxLen)(key val:Value)(kl:Lit)(hx:a.eval x=key)(hv:a.eval v=val)(aMt:keyOf P k key=some kl)(d:DataW Unit)(ps:List MemPlace)(aUF:R val=some (d,ps))(h:∀w',w'.ownsMap P k R b (n+1) (D.put kl d)->w.grownBy w' (some b)->K (a.put o.dst undef) w'):o.wp P a w K Q:=by
 obtain⟨w',NR,r1,r2⟩:=aW.update Kd ht hn aMt aUF;unfold Oper.wp;simp[execOp,hop,hm,hx,hv,NR,Result.andThen];exact h _ r1 r2
def aZd(x:bK)(ps:List Int)(w:Wo)(e:Ending)(w':Wo):Prop:=Below w.heap.size w w'/\∃c:Int,e=.returned (.int .i64 c)/\(c=0->iV x=0/\ps.length=x.nodes.length/\(∀p∈ps,-100000<=p/\p<=100000)/\∀k,rO x ps ps.length k=0)
theorem aFw(h:bZ)(x:bK)(A:OA)(n c:Nat)(ps:List Int)(w:Wo)(r:cL w w.heap.size h x)(hp:pK w w.heap.size A n ps)(hn:n<=9223372036854775807):Calls Tryz.prog 54 #[.agg h.cells,.slice A n c] w (aZd x ps w):=by
 have K0:=jO w (.cells h.cells 29);obtain⟨HK,P0,HX,HP⟩:=h_ K0 (aD.new w 29 h.cells) (r.up K0) (hp.bm K0);have eC:Hid (w.heap.size<=(w.alloc (.cells h.cells 29)).heap.size):=lH K0.size;have BL:Hid (ps.length=n):=lH hp.len;clear K0 r hp;obtain⟨D0,r0,s0,D1,r1,s1,D2,r2,s2,D3,r3,s3,D4,r4,s4,D5,r5,s5⟩:=h;obtain⟨y0,y1,y2,y3,y4,y5,nf,nlt⟩:=aX P0.o;dsimp only at y0 y1 y2 y3 y4 y5;go_enter Tryz.func54,Tryz.ntmps54
 go_wp2_with fail
 clear y0 y1 y2 y3 y4 y5 nf nlt;generalize w.alloc (.cells (bZ.cells ⟨D0,r0,s0,D1,r1,s1,D2,r2,s2,D3,r3,s3,D4,r4,s4,D5,r5,s5⟩) 29)=W at *;refine(ME _ x W HX.o).mono ?_;rintro e w1 ⟨rfl,bO⟩;have cI:=lH (HK.o.trans (bO.mono eC.o));replace HX:=lH (HX.o.up bO);replace HP:=lH (HP.o.bm bO);replace P0:=lH (P0.o.bl bO);clear bO HK eC;by_cases mP:iV x=0
 case neg=>
  have hB:(iV x != 0)=true:=by simp[mP]
  have MO:=lH mP;generalize iV x=ck at *;(go_wp2_with fail);go_ret;exact⟨cI.o,_,rfl,fun e=>absurd e MO.o⟩
 rw[mP];have MO:=lH mP;have bM:=lH (G3 mP);have FF:Hid (x.nodes.length=r0):=lH HX.o.r0.1;clear mP;obtain⟨y0,y1,y2,y3,y4,y5,nf,nlt⟩:=aX P0.o;dsimp only at y0 y1 y2 y3 y4 y5;by_cases hnr:n=r0
 case neg=>
  have hB:((n:Int) != (r0:Int))=true:=by simp;omega
  (go_wp2_with fail);go_ret;exact⟨cI.o,_,rfl,fun e=>absurd e (by decide)⟩
 subst hnr
 go_wp2_with fail
 refine(YT ⟨D0,n,s0,D1,r1,s1,D2,r2,s2,D3,r3,s3,D4,r4,s4,D5,r5,s5⟩ x bM.o w1 HX.o).mono ?_;rintro e w2 ⟨bH,g1,g2,rfl,RC,lM,NT,vJ⟩;have HNL:Hid (n<=24):=lH (by rw[<-FF.o];exact bM.o.l0);have hz:=jO w2 (.cells #[.slice (some ⟨g1,0,none⟩) n n,.slice (some ⟨g2,0,none⟩) (aH x) (aH x)] 50);obtain⟨P7,BN,jA⟩:=dZ (aD.new w2 50 #[.slice (some ⟨g1,0,none⟩) n n,.slice (some ⟨g2,0,none⟩) (aH x) (aH x)]) (NT.bl hz) (vJ.bl hz);have kE:=bH.tm hz;have fV:=cJ cI kE;have SS:=lH (HP.o.bm kE);clear bH RC lM NT vJ hz kE cI HP HX P0 y0 y1 y2 y3 y4 y5 nf nlt
 go_upto_region 7 with fail
 generalize w2.alloc (.cells #[.slice (some ⟨g1,0,none⟩) n n,.slice (some ⟨g2,0,none⟩) (aH x) (aH x)] 50)=w3 at *;generalize w2.heap.size=p7 at *;have Q9:=@run_makeMap Tryz.prog;have qM:=jO w3 (.map #[] 0);have HSM:Hid (∃m,aNf (w3.alloc (.map #[] 0)) w3.heap.size m x ps 0/\m<=0):=lH ⟨0,⟨.map [],World.ownsMap_made _ _ _ _,⟨[],rfl⟩,fun k=>rfl⟩,lR⟩;have HZ0:=lH qM;clear qM
 go_wp2_with fail
 clear Q9;generalize w3.alloc (.map #[] 0)=wm at *;obtain⟨bm,KE⟩:∃bm,bm=w3.heap.size:=⟨_,rfl⟩;rw[<-KE] at HSM ⊢;have J1:=lH KE;clear KE
 go_loopw [28] (fun v28 wr=>∃i:Nat,i<=n/\v28=.int .i64 i/\(∃m,aNf wr bm m x ps i/\m<=i)/\(∀j p,j<i->ps[j]?=some p->-100000<=p/\p<=100000)/\Below w3.heap.size w3 wr) (fun v28 _=>n-(intOf v28).toNat)
 case atStart=>exact⟨0,by omega,rfl,HSM.o,fun j p hj=>by omega,HZ0.o⟩
 case round=>
  clear HSM HZ0;obtain⟨i,hi,rfl,⟨m,hs,jZ⟩,l_,hw⟩:=hrel;obtain⟨HSN,SP,oU⟩:=dZ hs l_ hw;clear hs l_ hw;by_cases aR:i<n
  ·obtain⟨p,hp⟩:∃p,ps[i]?=some p:=eE (by have:=BL.o;omega)
   have hpr:=SS.o.below oU.o lR;obtain⟨pb,po,hA,hpb,-⟩:=hpr.2 (by omega);subst hA;have cp:=hpr.at_ hp;have xW:pb<wr.heap.size:=kA hpb oU.o.size;have BS:(i:Int)<(n:Int):=by omega
   have iW:=lZ i;have lE:=jM i;have HPI:=lH hp;have kL:=lN i;have iR:Hid (n-(i+1)<n-i):=lH (by omega);clear hp hpr hpb;by_cases hlo:p < -100000
   ·go_wp2_with fail
    go_ret;exact⟨fV.o.tm oU.o,_,rfl,fun e=>absurd e (by decide)⟩
   by_cases hhi:100000<p
   ·go_wp2_with fail
    go_ret;exact⟨fV.o.tm oU.o,_,rfl,fun e=>absurd e (by decide)⟩
   obtain⟨E_,hbn⟩:=ZG bM.o (i:=i) (by rw[FF.o];exact aR);have yV:=qE bM.o;have his:(DA x)[qR x i]?=some (uG x i):=by
    unfold uG;rw[dH,gS (by omega)];rfl
   have NT:=BN.o.bl oU.o;have vJ:=jA.o.bl oU.o;have h7:=P7.o.bl oU.o;have c1:=FU NT E_;have c2:=FU vJ his;have l1:=NT.lt;have l2:=vJ.lt;obtain⟨t0,t1,tl⟩:=h7.b2;obtain⟨D,aW,E6,AU⟩:=HSN.o;obtain⟨rU,HMP,Z1⟩:=dZ aW E6 AU;have JF:Hid (keyOf Tryz.prog 3 (.int .i64 (uG x i))=some (.int .i64 (uG x i))):=lH (keyOf_int_mk Tryz.underlying3 (by
    have h1:=(sJ (DL bM.o).1).2 _ (bS his);have h2:=(eW bM.o).2;have h3:=bM.o.l0;simp[Lit.wf,IntKind.min,IntKind.max,IntKind.signed,IntKind.bits];omega))
   have HLK:Hid (∀w',Below wr.heap.size wr w'->(Instr.lookup 154 (.map (some bm)) (.int .i64 (uG x i)) false).run Tryz.prog w'=.ok (.int .i64 (rO x ps i (uG x i))) w'):=lH fun w' hb=>by
    obtain⟨c,h1,h2,-⟩:=(J8 rU.o hb).lookup_int rH Tryz.underlying154 Tryz.underlying3 (aPk _) JF.o;rw[Z1.o] at h2;injection h2 with h2;injection h2 with _ h2;rw[h2];exact h1
   have SQ:Hid (-2500000<=rO x ps i (uG x i)/\rO x ps i (uG x i)<=2500000):=lH (by
    have h1:=QN (x:=x) i SP.o (by have:=BL.o;omega) i lR (uG x i);have:=HNL.o;omega)
   have HPU:=lH (aHN HMP.o Z1.o HPI.o);have hwz:IntKind.i64.wrap (rO x ps i (uG x i)+p)=rO x ps i (uG x i)+p:=F8 (by have:=SQ.o;omega) (by have:=SQ.o;omega);have hbI:(qR x i:Int)<(aH x:Int):=by omega
   have IL:(0:Int)<=(qR x i:Int):=by omega
   have hbt:(qR x i:Int).toNat=qR x i:=jM _;clear E_ yV his NT vJ h7 aW E6 AU;(go_upto_region 13 with fail);refine kQ 13 (fun hHeld=>?_);simp only[m_,List.take_zero];refine cR [0,1,2,3,4,5,6,7,8,9,11] ?_;refine fP 10 (v:=?_) ?_ hHeld ?_;rotate_left 1
   ·intro w' hSw;obtain⟨LS,-⟩:=aF7 hSw;have hlk:=HLK.o w' hSw;go_simp<;>with_reducible rfl
   (try simp only[Act.put,fZ,fY,fX]);refine cR [12] ?_;have HOD:Hid (wr.drew.ownsMap Tryz.prog 3 (plainElem Tryz.prog 3) bm m D):=lH rU.o;have MP:=lH (oU.o.trans ((aI (Below.refl wr.heap.size wr)).mono oU.o.size));generalize wr.drew=v0 at *;refine eP ?_;refine CB (.tmp 39) (.tmp 48) (.tmp 51) 154 rfl 3 3 rH Tryz.underlying154 _ bm m D rfl HOD.o (by have:=HNL.o;unfold maxLen;omega) _ _ _ rfl rfl JF.o _ [] (plainElem_int Tryz.underlying3 (by have:=SQ.o;simp[Lit.wf,IntKind.min,IntKind.max,IntKind.signed,IntKind.bits];omega)) fun w5 EG hg5=>?_;have HS5:Hid (aNf w5 bm (m+1) x ps (i+1)):=lH ⟨_,EG,HPU.o.1,HPU.o.2⟩;have d_:=lH (MP.o.grown hg5 MP.o.size (fun k hk=>by injection hk with hk;rw[<-hk,J1.o];exact lR));have HZ5:Hid (∀j q,j<i+1->ps[j]?=some q->-100000<=q/\q<=100000):=lH fun j q hj hq=>by
    by_cases e:j=i
    ·subst e
     rw[HPI.o] at hq;injection hq with hq;omega
    ·exact SP.o j q (by omega) hq
   have hnl:=HNL.o;clear EG hg5 hHeld cp xW c1 c2 l1 l2 t0 t1 tl hwz;(go_wp2_with fail);go_roundw
   case rel=>exact⟨i+1,aR,aQ kL.o,⟨m+1,HS5.o,by omega⟩,HZ5.o,d_.o⟩
   case measure=>exact iR.o
  ·have EH:n=i:=by omega
   subst EH;have BS:¬(n:Int)<(n:Int):=by omega
   have HZP:Hid (∀p∈ps,-100000<=p/\p<=100000):=lH fun p hp=>by
    obtain⟨j,hj⟩:=List.mem_iff_getElem?.1 hp;exact SP.o j p (by have:=(cY.1 hj).1;have:=BL.o;omega) hj
   obtain⟨D,aW,E6,AU⟩:=HSN.o;have Z1:=lH AU;have rU:=lH aW;clear E6 AU aW;obtain⟨w6,rP⟩:∃w6,w6=wr:=⟨_,rfl⟩;rw[<-rP] at rU oU ⊢;clear rP HSN
   go_wp2_with (first
    | (at_range;refine wpList_range_own _ rfl _ 154 rfl 3 3 rH Tryz.underlying154 _ bm m D rfl rU.o ?_;intro w0 aP2 hg0 hs0)
    | go_in)
   have gT:Hid (Below w3.heap.size w3 w0):=lH (oU.o.grown hg0 oU.o.size (fun k hk=>by cases hk));have HRS:Hid (∃left cnt,w0.ranges Tryz.prog 3 (plainElem Tryz.prog 3) bm w6.heap.size m D left cnt/\(∀k:Int,left (.int .i64 k)=false->rO x ps n k=0)/\Below w3.heap.size w3 w0):=lH ⟨_,_,aP2,fun k hk=>by
    have h1:=Z1.o k;rw[atKey_of_not_has hk] at h1;injection h1 with h1;injection h1 with _ h1;exact h1.symm,gT.o⟩
   have HRB:Hid (w3.heap.size<=w6.heap.size):=lH oU.o.size;clear aP2 hg0 hs0 gT oU;generalize w6.heap.size=rb at *
   go_loopw [11] (fun _ wr=>∃(left:Lit->Bool)(cnt:Nat),wr.ranges Tryz.prog 3 (plainElem Tryz.prog 3) bm rb m D left cnt/\(∀k:Int,left (.int .i64 k)=false->rO x ps n k=0)/\Below w3.heap.size w3 wr) (fun _ wr=>wr.rangeLeft bm rb)
   case atStart=>exact HRS.o
   case round=>
    clear HRS;obtain⟨left,cnt,hrg,hzk,hb⟩:=hrel;obtain⟨HZK,HB,HRG⟩:=dZ hzk hb hrg;clear hzk hb hrg
    go_wp2_with (first
     | (at_next;refine wpList_next_ranges_ii _ rfl _ rfl 3 3 .i64 .i64 rH Tryz.underlying3 Tryz.underlying3 bm rb m _ _ _ rfl HRG.o ?_ ?_)
     | go_in)
    ·intro IJ hl0
     have HL0:=lH hl0;clear IJ hl0;(go_wp2_with fail);go_ret;exact⟨fV.o.tm HB.o,0,rfl,fun _=>⟨MO.o,BL.o.trans FF.o.symm,HZP.o,fun k=>by rw[BL.o];exact HZK.o k (HL0.o _)⟩⟩
    ·intro k c w4 cnt1 hwx JM hlx AU hrg1 aR RC vH hen
     have HC:Hid (c=rO x ps n k):=lH (by
      have h1:=Z1.o k;rw[AU] at h1;injection h1 with h1;injection h1 with _ h1)
     have aST:=lH hrg1;have uK:=lH aR;have bP:Hid (Below w3.heap.size w3 w4):=lH (HB.o.grown RC HB.o.size (fun j hj=>by injection hj with hj;rw[<-hj];exact HRB.o));clear AU hrg1 aR RC vH hwx JM hlx;by_cases hc:c=0
     ·subst hc
      (go_wp2_with fail);go_roundw
      case rel=>exact⟨_,cnt1,aST.o,fun k2 vJ=>by
       by_cases e:k2=k
       ·subst e;exact HC.o.symm
       ·refine HZK.o k2 ?_
        have h1:Lit.sameKey (.int .i64 k2) (.int .i64 k)=false:=sameKey_ne (fun e2=>e (by injection e2));simpa[h1] using vJ,bP.o⟩
      case measure=>rw[aST.o.left_eq,HRG.o.left_eq];exact uK.o
     ·have hB:(c != 0)=true:=by simp[hc]
      (go_wp2_with fail);go_ret;exact⟨fV.o.tm bP.o,_,rfl,fun e=>absurd e (by decide)⟩
end
section
open Go.ChangeShapes Go.WideShapes Go.ChangeAt Go.RowKit
attribute [local go_sem ↓] aE
attribute [local go_sem] aL aK aO a_
def iJ(x:bK)(ps:List Int):List Rat:=PL x (pF x (xF x ps) x.brs.length)
structure aGT (x:bK) (ps:List Int):Prop where
 ck:iV x=0
 len:ps.length=x.nodes.length
 rng:∀p∈ps,-100000<=p/\p<=100000
 bal:∀k,rO x ps ps.length k=0
 fa:∀q∈iJ x ps,cH q
 ff:∀q∈dM x (iJ x ps),cH q
def aRu(x:bK)(ps:List Int)(w:Wo)(e:Ending)(w':Wo):Prop:=Below w.heap.size w w'/\((∃c:Int,c≠0/\e=.returned (.tuple #[.agg #[.slice none 0 0,.slice none 0 0],.int .i64 c]))\/
 (aGT x ps/\∃A n c B m d,e=.returned (.tuple #[.agg #[.slice A n c,.slice B m d],.int .i64 0])/\(bD w' w'.heap.size A n ((iJ x ps).map iU)/\n<=c/\c<=maxLen)/\bD w' w'.heap.size B m ((dM x (iJ x ps)).map iU)/\m<=d/\d<=maxLen))
theorem aAk(h:bZ)(x:bK)(h8:x.nodes.length<=8)(A:OA)(n c:Nat)(ps:List Int)(w:Wo)(r:cL w w.heap.size h x)(hp:pK w w.heap.size A n ps)(hn:n<=9223372036854775807)(ht:fL w):Calls Tryz.prog 22 #[.agg h.cells,.slice A n c] w (aRu x ps w):=by
 have Q0:Below w.heap.size w ((w.alloc (.cells h.cells 29)).alloc yK):=(bA).alloc (by simp) _;have HW:=lH Q0;have P0:=lH ((aD.new w 29 h.cells).alloc yK);have P4:Hid (aD ((w.alloc (.cells h.cells 29)).alloc yK) (w.heap.size+1) 37 #[.slice none 0 0,.slice none 0 0]):=lH (aD.new_ (by simp));have eC:Hid (((w.alloc (.cells h.cells 29)).alloc yK).heap.size=w.heap.size+1+1):=lH (by simp);obtain⟨HPI,HX,HT,H8⟩:=h_ (hp.bm Q0) (r.up Q0) (ht.up Q0) h8;have HPN:Hid (ps.length=n):=lH hp.len;clear Q0 hp r ht h8;obtain⟨D0,r0,s0,D1,r1,s1,D2,r2,s2,D3,r3,s3,D4,r4,s4,D5,r5,s5⟩:=h;go_enter Tryz.func22,Tryz.ntmps22
 go_upto_region 1 with fail
 generalize (w.alloc (.cells (bZ.cells ⟨D0,r0,s0,D1,r1,s1,D2,r2,s2,D3,r3,s3,D4,r4,s4,D5,r5,s5⟩) 29)).alloc yK=W at *;obtain⟨y0,y1,y2,y3,y4,y5,nf,nlt⟩:=aX P0.o;dsimp only at y0 y1 y2 y3 y4 y5
 go_wp2_with fail
 refine(aFw _ x A n c ps W HX.o HPI.o hn).mono ?_;rintro e w1 ⟨bO,d,rfl,mP⟩;have cI:=lH bO;have P7:=lH (P4.o.bl cI.o);clear bO y0 y1 y2 y3 y4 y5 nf nlt;by_cases hd:d=0
 case neg=>
  have HD:=lH hd;have hdb:(d != 0)=true:=by simp[hd]
  clear mP hd;obtain⟨z0,z1,zf,zl⟩:=P7.o.e2;(go_wp2_with fail);have p0:=(P7.o.set_ 0 (.slice none 0 0)).set_ 1 (.slice none 0 0);obtain⟨q0,q1⟩:=p0.a2;exact bodyPost_ret (v:=.tuple #[.agg #[.slice none 0 0,.slice none 0 0],.int .i64 d]) (by simp[results,Tryz.results22,go_sem,q0,q1]) rfl ⟨((HW.o.trans (cI.o.mono (by have:=eC.o;omega))).setCell (Nat.le_succ _) _).setCell (Nat.le_succ _) _,.inl ⟨d,HD.o,rfl⟩⟩
 subst hd;obtain⟨hk,d8,aP1,aQ7⟩:=mP rfl;obtain⟨MO,SW,HRG,oU,bM⟩:=iS hk d8 aP1 aQ7 (G3 hk);obtain⟨fB,HP1,HXB⟩:=dZ (HX.o.up cI.o) (HPI.o.bm cI.o) (P0.o.bl cI.o);clear mP hk d8 aP1 aQ7 HX HPI P0;obtain⟨y0,y1,y2,y3,y4,y5,nf,nlt⟩:=aX HXB.o;dsimp only at y0 y1 y2 y3 y4 y5
 go_wp2_with fail
 refine(tS _ x bM.o H8.o w1 fB.o).mono ?_;rintro e w2 ⟨bH,g,m,A2,n2,c2,rfl,-,hg,hm,Q_⟩;obtain⟨Q4,hri⟩:=Q_ (aIo bM.o);subst Q4;have dN:=cJ cI bH;obtain⟨HG,HM,HRI,uJ⟩:=h_ hg hm hri (HP1.o.bm bH);clear bH hg hm hri Q_ cI fB HP1 HXB P7 y0 y1 y2 y3 y4 y5 nf nlt
 go_wp2_with fail
 refine(aAT g m _ x bM.o A n c ps w2 HG.o HM.o uJ.o (HPN.o.symm.trans SW.o) HRG.o).mono ?_;rintro e w3 ⟨dK,v3,us3,rfl,ho3⟩;obtain⟨A3,c3,qI,aP6,-,-,-⟩:=ho3.rd;subst qI;have fV:=cJ dN dK;obtain⟨SZ,HM3,aXE,MK⟩:=h_ (HG.o.bl dK) (HM.o.up dK) (HRI.o.bm dK) aP6;have HZ3:Hid (∀q∈xF x ps,bE q<=2):=lH (aEl HRG.o (by rw[SW.o];exact bM.o.l0));clear dK ho3 aP6 dN HG HM HRI uJ
 go_wp2_with fail
 refine(aAR g m A2 c2 x bM.o H8.o A3 _ c3 (xF x ps) w3 SZ.o HM3.o aXE.o MK.o AO fun q hq=>b_ (HZ3.o q hq) (by decide)).mono ?_;rw[<-iJ];rintro e w4 ⟨gE,ga,vs,rfl,-,tL⟩;have bP:=cJ fV gE;obtain⟨HG4,HM4,ZP⟩:=dZ (SZ.o.bl gE) (HM3.o.up gE) tL;have B7:Hid ((iJ x ps).length=aH x):=lH GO;have HAZ:Hid (∀q∈iJ x ps,bE q<=100000000000):=lH fun q hq=>by
  have h1:=NJ bM.o (qs:=xF x ps) AO HZ3.o x.brs.length lR;have h2:=PJ bM.o H8.o (lf:=pF x (xF x ps) x.brs.length) ((FT _ lR).trans AO) (fun q hq=>b_ (h1 q hq) (by have:=bM.o.l2;omega)) _ lR q hq;exact b_ h2 (by decide)
 have HAN:Hid (aH x<=1000000):=lH (by have:=(eW bM.o).2;have:=bM.o.l0;omega);clear gE tL fV SZ HM3 aXE MK
 go_wp2_with fail
 refine(nW _ _ _ (iJ x ps) w4 ZP.o.rdq (by rw[B7.o];exact HAN.o) (HT.o.up bP.o)).mono ?_;rintro e w5 ⟨eJ,qZ,t8⟩;have d_:=cJ bP eJ;obtain⟨HG5,HM5,TF⟩:=dZ (HG4.o.bl eJ) (HM4.o.up eJ) (ZP.o.up eJ);obtain⟨A6,n6,c6,z6,rfl,ht6⟩:∃A6 n6 c6 z6,e=.returned (.tuple #[.slice A6 n6 c6,.int .i64 z6])/\(((z6=2)/\¬∀q∈iJ x ps,cH q)\/(z6=0/\(∀q∈iJ x ps,cH q)/\bD w5 w5.heap.size A6 n6 ((iJ x ps).map iU)/\n6<=c6/\c6<=maxLen)):=by
  by_cases hf:∀q∈iJ x ps,cH q
  ·obtain⟨A7,n7,c7,rfl,h1,h2,h3⟩:=qZ hf
   exact⟨_,_,_,_,rfl,.inr ⟨rfl,hf,h1,h2,h3⟩⟩
  ·exact⟨_,_,_,_,t8 hf,.inl ⟨rfl,hf⟩⟩
 have HT6:=lH ht6;clear eJ qZ t8 ht6 bP HG4 HM4 ZP
 go_wp2_with fail
 refine(LV g m _ x bM.o _ _ _ (iJ x ps) w5 HG5.o HM5.o TF.o.rdq B7.o HAZ.o).mono ?_;rintro e w6 ⟨gA,v6,us6,rfl,ho6⟩;obtain⟨A8,c8,LM,aP5,-,-,-⟩:=ho6.rd;subst LM;have gQ:=cJ d_ gA;have HR8:=lH aP5;have HS6:Hid (w5.heap.size<=w6.heap.size/\Below w5.heap.size w5 w6):=lH ⟨gA.size,gA⟩;have J0:Hid ((dM x (iJ x ps)).length<=1000000):=lH (by unfold dM;rw[iT];have:=bM.o.l2;omega);clear gA ho6 aP5 d_ HG5 HM5 TF
 go_wp2_with fail
 refine(nW A8 _ c8 (dM x (iJ x ps)) w6 HR8.o J0.o (HT.o.up gQ.o)).mono ?_;rintro e w7 ⟨iA,qZ,t8⟩;have lG:=cJ gQ iA;have H57:=lH (HS6.o.2.trans (iA.mono HS6.o.1));obtain⟨A9,n9,c9,z9,rfl,ht9⟩:∃A9 n9 c9 z9,e=.returned (.tuple #[.slice A9 n9 c9,.int .i64 z9])/\(((z9=2)/\¬∀q∈dM x (iJ x ps),cH q)\/(z9=0/\(∀q∈dM x (iJ x ps),cH q)/\bD w7 w7.heap.size A9 n9 ((dM x (iJ x ps)).map iU)/\n9<=c9/\c9<=maxLen)):=by
  by_cases hf:∀q∈dM x (iJ x ps),cH q
  ·obtain⟨A7,n7,c7,rfl,h1,h2,h3⟩:=qZ hf
   exact⟨_,_,_,_,rfl,.inr ⟨rfl,hf,h1,h2,h3⟩⟩
  ·exact⟨_,_,_,_,t8 hf,.inl ⟨rfl,hf⟩⟩
 have HT9:=lH ht9;have P9:=lH (P4.o.bl lG.o);have gT:=lH (HW.o.trans (lG.o.mono (by have:=eC.o;omega)));clear iA qZ t8 ht9 gQ HS6 HR8;obtain⟨z0,z1,zf,zl⟩:=P9.o.e2;have bad:∀v:World,v=(w7.setCell ⟨w.heap.size+1,0,none⟩ (.slice none 0 0)).setCell ⟨w.heap.size+1,1,none⟩ (.slice none 0 0)->aRu x ps w (.returned (.tuple #[.agg #[.slice none 0 0,.slice none 0 0],.int .i64 2])) v:=fun v e=>by
  subst e;exact⟨(gT.o.setCell (Nat.le_succ _) _).setCell (Nat.le_succ _) _,.inl ⟨2,by decide,rfl⟩⟩
 have MP:=lH bad;clear bad;rcases HT6.o with⟨rfl,-⟩ | ⟨rfl,RD,pG,h61,h62⟩
 ·go_wp2_with fail
  have p1:=(P9.o.set_ 0 (.slice none 0 0)).set_ 1 (.slice none 0 0);obtain⟨q0,q1⟩:=p1.a2;exact bodyPost_ret (v:=.tuple #[.agg #[.slice none 0 0,.slice none 0 0],.int .i64 2]) (by simp[results,Tryz.results22,go_sem,q0,q1]) rfl (MP.o _ rfl)
 rcases HT9.o with⟨rfl,-⟩ | ⟨rfl,OT,hr9,h91,h92⟩
 ·clear pG RD h61 h62
  (go_wp2_with fail);have p1:=(P9.o.set_ 0 (.slice none 0 0)).set_ 1 (.slice none 0 0);obtain⟨q0,q1⟩:=p1.a2;exact bodyPost_ret (v:=.tuple #[.agg #[.slice none 0 0,.slice none 0 0],.int .i64 2]) (by simp[results,Tryz.results22,go_sem,q0,q1]) rfl (MP.o _ rfl)
 obtain⟨JX,HR9,HF6,ZX⟩:=h_ (pG.bm H57.o) hr9 RD OT;clear pG hr9 RD OT HT6 HT9 MP
 go_wp2_with fail
 have k1:=P9.o.set_ 0 (.slice A6 n6 c6);have p1:=k1.set_ 1 (.slice A9 n9 c9);obtain⟨q0,q1⟩:=p1.a2;have a6:=(JX.o.keepN (i:=0) (u:=.slice A6 n6 c6) P9.o lD rfl).keepN (i:=1) (u:=.slice A9 n9 c9) k1 lD rfl;have a9:=(HR9.o.keepN (i:=0) (u:=.slice A6 n6 c6) P9.o lD rfl).keepN (i:=1) (u:=.slice A9 n9 c9) k1 lD rfl;exact bodyPost_ret (v:=.tuple #[.agg #[.slice A6 n6 c6,.slice A9 n9 c9],.int .i64 0]) (by simp[results,Tryz.results22,go_sem,q0,q1]) rfl ⟨(gT.o.setCell (Nat.le_succ _) _).setCell (Nat.le_succ _) _,.inr ⟨⟨MO.o,SW.o,HRG.o,oU.o,HF6.o,ZX.o⟩,_,_,_,_,_,_,rfl,⟨a6,h61,h62⟩,a9,h91,h92⟩⟩
end
section
open Go.ChangeShapes Go.WideShapes Go.ChangeAt Go.RowKit Go.Joins
attribute [local go_sem ↓] aE
attribute [local go_sem] aL aK aO a_
def LH(n:Nat):ByteArray:=⟨(Lib.decDigits n).toArray⟩
theorem aA4(i:Nat)(h:i<100)(w:Wo):Calls Tryz.prog 157 #[.int .i64 i,.int .i64 10] w fun e w'=>e=.returned (.string (LH i))/\w'=w:=by
 have h0:=lZ i;have h1:(i:Int)<100:=by omega
 have HC:=lH (Tryz.internal_strconv_small i h w);go_enter Tryz.func157,Tryz.ntmps157
 go_wp2_with fail
 refine HC.o.mono ?_;rintro e w' ⟨rfl,rfl⟩
 go_wp2_with fail
 go_ret;exact⟨rfl,rfl⟩
theorem U_(i:Nat)(h:i<100)(w:Wo):Calls Tryz.prog 126 #[.int .i64 i] w fun e w'=>e=.returned (.string (LH i))/\w'=w:=by
 have HC:=lH (aA4 i h w);go_enter Tryz.func126,Tryz.ntmps126
 go_wp2_with fail
 refine HC.o.mono ?_;rintro e w' ⟨rfl,rfl⟩
 go_wp2_with fail
 go_ret;exact⟨rfl,rfl⟩
theorem aAW(i:Nat)(h:i<100)(w:Wo):Calls Tryz.prog 87 #[.int .i64 i] w fun e w'=>e=.returned (.string (LH i))/\w'=w:=by
 have HC:=lH (U_ i h w);go_enter Tryz.func87,Tryz.ntmps87
 go_wp2_with fail
 refine HC.o.mono ?_;rintro e w' ⟨rfl,rfl⟩
 go_wp2_with fail
 go_ret;exact⟨rfl,rfl⟩
theorem LG(h:i<4):(LH i).size=1:=by
 have:i=0\/i=1\/i=2\/i=3:=by omega
 rcases this with rfl | rfl | rfl | rfl<;>decide+kernel
def zM(c:UInt8)(i:Nat):ByteArray:=⟨#[c]⟩++LH i
def aM4:Nat->ByteArray
 | 0=>⟨#[78]⟩
 | i+1=>zM 66 i
def chN:Nat->List ByteArray
 | 0=>[⟨#[78]⟩]
 | i+1=>chN i++[zM 65 i,zM 66 i]
def chS:Nat->List Sw
 | 0=>[]
 | i+1=>chS i++[⟨zM 83 i,aM4 i,zM 65 i,true,false⟩]
def chX(k:Int):Int:=1+(k.tmod 2000+2000).tmod 2000
theorem KT(a:Int):-2000<a.tmod 2000/\a.tmod 2000<2000:=by
 have h2:=Int.natAbs_tmod a 2000;have h3:a.natAbs % (2000:Int).natAbs<2000:=Nat.mod_lt _ (by decide);omega
theorem aJo(k:Int):wrap64 (1+(wrap64 (k.tmod 2000+2000)).tmod 2000)=chX k/\1<=chX k/\chX k<=2000:=by
 have h1:=KT k;have h2:=KT (k.tmod 2000+2000);have h3:0<=(k.tmod 2000+2000).tmod 2000:=Int.tmod_nonneg _ (by omega);have e2:wrap64 (k.tmod 2000+2000)=k.tmod 2000+2000:=Go.IntWalk.wrap64_in _ (by omega);have e3:wrap64 (1+(k.tmod 2000+2000).tmod 2000)=1+(k.tmod 2000+2000).tmod 2000:=Go.IntWalk.wrap64_in _ (by omega);rw[e2,e3];unfold chX;exact⟨rfl,by omega,by omega⟩
def chB(ks:List Int):Nat->List Br
 | 0=>[]
 | i+1=>chB ks i++[⟨zM 76 i,zM 65 i,zM 66 i,chX (ks.getD i 0),1000,0,0,0,0⟩]
theorem ZD:∀i,(chN i).length=2*i+1
 | 0=>rfl
 | i+1=>by unfold chN;rw[g_,ZD i];simp;omega
theorem ZC:∀i,(chS i).length=i
 | 0=>rfl
 | i+1=>by unfold chS;rw[g_,ZC i];rfl
theorem ZE{ks:List Int}:∀i,(chB ks i).length=i
 | 0=>rfl
 | i+1=>by unfold chB;rw[g_,ZE i];rfl
theorem NG{c:UInt8}(h:i<4):(zM c i).size=2:=by
 have h1:=LG h;unfold zM;rw[ByteArray.size_append,h1];rfl
theorem SG:∀i,i<=4->∀s∈chN i,s.size<=maxLen
 | 0,_,s,hs=>by
  simp only[chN,List.mem_cons,List.not_mem_nil,or_false] at hs;subst hs;decide
 | i+1,hi,s,hs=>by
  unfold chN at hs;rcases List.mem_append.1 hs with h | h
  ·exact SG i (by omega) s h
  ·simp only[List.mem_cons,List.not_mem_nil,or_false] at h
   rcases h with rfl | rfl<;>rw[NG (by omega)]<;>decide
theorem SF:∀i,i<=4->∀s∈chS i,s.name.size<=maxLen
 | 0,_,s,hs=>by simp[chS] at hs
 | i+1,hi,s,hs=>by
  unfold chS at hs;rcases List.mem_append.1 hs with h | h
  ·exact SF i (by omega) s h
  ·simp only[List.mem_cons,List.not_mem_nil,or_false] at h
   subst h;show(zM 83 i).size<=maxLen;rw[NG (by omega)];decide
theorem SH{ks:List Int}:∀i,i<=4->∀s∈chB ks i,s.name.size<=maxLen
 | 0,_,s,hs=>by simp[chB] at hs
 | i+1,hi,s,hs=>by
  unfold chB at hs;rcases List.mem_append.1 hs with h | h
  ·exact SH i (by omega) s h
  ·simp only[List.mem_cons,List.not_mem_nil,or_false] at h
   subst h;show(zM 76 i).size<=maxLen;rw[NG (by omega)];decide
def aF5(ks:List Int):bK:=⟨chN (min ks.length 4),chS (min ks.length 4),chB ks (min ks.length 4),[⟨⟨#[71]⟩,⟨#[78]⟩,0,9,0⟩],[],[]⟩
def sY(u:Value):Prop:=True
section
variable {w w':Wo} {base e size n:Nat} {v:Value} {xs:List Value}
theorem bB.keepT{S:Value->Prop}(h:bB S w base e size v n xs)(k:∀b t cs,aD w b t cs->t=e->aD w' b t cs):bB S w' base e size v n xs:=by
 refine⟨h.1,?_⟩;rcases h.2 with h1 | ⟨g,cap,cur,h1,h2,h3,h4⟩
 ·exact .inl h1
 ·exact .inr ⟨g,cap,cur,h1,h2,k _ _ _ h3 rfl,h4⟩
theorem uV{ops:Array Oper}{rest:List Oper}{o:Oper}{a:Act}{Q:Exit->Act->World->Prop}(yW:o.guard=none)(s x:Operand)(t:TypeId)(ho:o.op=.call { callee:=.builtin .append,args:=#[s,x],argTypes:=#[t,t] })(base e size bytes:Nat)(z:Value)(ht:Tryz.prog.underlying t=some (.slice e))(IG:(Tryz.prog.info? e).map (fun i=>(i.zero,i.size,i.bytes))=some (some z,size,bytes))(JL:z.cells.size=size)(hZ:0<size)(yY:bytes<=1000)(v:Value)(n m c:Nat)(xs:List Value)(lit:Array Value)(T:TypeId)(hs:a.eval s=v)(aW:bB sY w base e size v n xs)(hx:a.eval x=.slice (some ⟨w.heap.size,0,none⟩) m c)(hl:lit.size=m*size)(h1:∀u∈lit.toList,u.oneCell'=true)(uO:n+m<=1000000)(cD:base<=w.heap.size)(h:∀v' w',bB sY w' base e size v' (n+m) (xs++lit.toList)->Below base w w'->(∀b t cs,aD w b t cs->t≠e->aD w' b t cs)->w.heap.size<=w'.heap.size->wpList Tryz.prog ops Q rest (a.put o.dst v') w'):wpList Tryz.prog ops Q (o::rest) a (w.alloc (.cells lit T)):=by
 obtain⟨i0,iW,qY,kF,kE⟩:∃i0,Tryz.prog.info? e=some i0/\i0.zero=some z/\i0.size=size/\i0.bytes=bytes:=by
  cases hh:Tryz.prog.info? e with
  | none=>rw[hh] at IG;cases IG
  | some i0=>
   rw[hh] at IG;simp only[Option.map_some,Option.some.injEq,Prod.mk.injEq] at IG;exact⟨i0,rfl,IG.1,IG.2.1,IG.2.2⟩
 have uH:=jO w (.cells lit T);have oP:Rd (w.alloc (.cells lit T)) (w.alloc (.cells lit T)).heap.size size (some ⟨w.heap.size,0,none⟩) m lit.toList:=M7 (by rw[Array.toArray_toList];exact aD.new w T lit) (by rw[Array.length_toList];exact hl) (by simp);refine nV yW s x t ho base e i0 z size bytes ht iW qY kF kE JL hZ (fun _ _=>trivial) v n xs hs (aW.keep uH) _ m c lit.toList hx oP (fun u hu=>⟨h1 u hu,trivial⟩) (by simp only[maxLen];omega) ?_ (b_ cD uH.size) fun v' w' g1 g2 g3 g4=>?_
 ·exact b_ (Nat.mul_le_mul uO yY) (by decide)
 ·exact h v' w' g1 ((uH.mono cD).trans g2.low) (fun b t' cs hb cG=>g2.blk b t' cs (hb.bl uH) cG) (b_ uH.size g2.size)
end
theorem bB.net{size gp:Nat}{xs:List Value}{cs:Array Value}(ho:bB sY w base e size v n xs)(hn:aD w gp 29 cs)(cG:e≠29):bB sY (w.setCell ⟨gp,j,none⟩ u) base e size v n xs:=ho.keepT fun b t cs' hb ht=>hb.far (fun e2=>by
    subst e2;subst ht;unfold aD at hb hn;rw[hb] at hn;injection hn with hn;injection hn with h1 h2;exact cG h2) _
theorem aD.net{b gp:Nat}{cs cs':Array Value}(hb:aD w b e cs')(hn:aD w gp 29 cs)(cG:e≠29):aD (w.setCell ⟨gp,j,none⟩ u) b e cs':=hb.far (fun e2=>by
    subst e2;unfold aD at hb hn;rw[hb] at hn;injection hn with hn;injection hn with h1 h2;exact cG h2) _
theorem aEm:(Tryz.prog.info? 9).map (fun i=>(i.zero,i.size,i.bytes))=some (some (.string ⟨#[]⟩),1,16):=by kernel_rfl
theorem aIv:(Tryz.prog.info? 148).map (fun i=>(i.zero,i.size,i.bytes))=some (some (.agg #[.string ⟨#[]⟩,.string ⟨#[]⟩,.string ⟨#[]⟩,.bool false,.bool false]),5,56):=by kernel_rfl
theorem aIx:(Tryz.prog.info? 54).map (fun i=>(i.zero,i.size,i.bytes))=some (some (.agg #[.string ⟨#[]⟩,.string ⟨#[]⟩,.string ⟨#[]⟩,.int .i64 0,.int .i64 0,.int .i64 0,.int .i64 0,.int .i64 0,.int .i64 0]),9,96):=by kernel_rfl
structure ChS (w:Wo) (base gp:Nat) (ks:List Int) (i:Nat):Prop where
 all:∃v0 v1 v2 gg,bB sY w base 9 1 v0 (2*i+1) (fC (chN i))/\bB sY w base 148 5 v1 i ((chS i).flatMap Sw.cells)/\bB sY w base 54 9 v2 i ((chB ks i).flatMap Br.cells)/\
  aD w gg 145 #[.string ⟨#[71]⟩,.string ⟨#[78]⟩,.int .i64 0,.int .i64 9,.int .i64 0]/\aD w gp 29 #[v0,v1,v2,.slice (some ⟨gg,0,none⟩) 1 1,.slice none 0 0,.slice none 0 0]/\base<=gp
def aOj(ks:List Int)(w:Wo)(e:Ending)(w':Wo):Prop:=Below w.heap.size w w'/\∃h:bZ,e=.returned (.agg h.cells)/\cL w' w'.heap.size h (aF5 ks)
theorem aBD(A:OA)(n c:Nat)(ks:List Int)(w:Wo)(hr:pK w w.heap.size A n ks)(hnc:n<=c)(hc:c<=9223372036854775807):Calls Tryz.prog 47 #[.slice A n c] w (aOj ks w):=by
 have HR:=lH hr;clear hr;go_enter Tryz.func47,Tryz.ntmps47
 obtain⟨m,hm⟩:∃m,m=min n 4:=⟨_,rfl⟩;have hm4:m<=4:=by omega
 have hmn:m<=n:=by omega
 have hmI:(min (n:Int) 4)=(m:Int):=by omega
 have JE:Hid (ks.length=n):=lH HR.o.len;have HM:=lH hm;clear hm
 go_upto_region 2 with fail
 have HW:=lH (show Below w.heap.size w ((((w.alloc aDY).alloc (.cells #[.string ⟨#[78]⟩] 9)).alloc (.cells #[.string ⟨#[71]⟩,.string ⟨#[78]⟩,.int .i64 0,.int .i64 9,.int .i64 0] 145)).alloc (.cells #[.slice (some ⟨w.heap.size+1,0,none⟩) 1 1,.slice none 0 0,.slice none 0 0,.slice (some ⟨w.heap.size+1+1,0,none⟩) 1 1,.slice none 0 0,.slice none 0 0] 29)) from(((bA).alloc (by simp) _).alloc (by simp;omega) _).alloc (by simp;omega) _);have P2:Hid (aD ((((w.alloc aDY).alloc (.cells #[.string ⟨#[78]⟩] 9)).alloc (.cells #[.string ⟨#[71]⟩,.string ⟨#[78]⟩,.int .i64 0,.int .i64 9,.int .i64 0] 145)).alloc (.cells #[.slice (some ⟨w.heap.size+1,0,none⟩) 1 1,.slice none 0 0,.slice none 0 0,.slice (some ⟨w.heap.size+1+1,0,none⟩) 1 1,.slice none 0 0,.slice none 0 0] 29)) w.heap.size 29 #[.slice none 0 0,.slice none 0 0,.slice none 0 0,.slice none 0 0,.slice none 0 0,.slice none 0 0]):=lH ((((aD.new w _ _).alloc _).alloc _).alloc _);have HZ:Hid (((((w.alloc aDY).alloc (.cells #[.string ⟨#[78]⟩] 9)).alloc (.cells #[.string ⟨#[71]⟩,.string ⟨#[78]⟩,.int .i64 0,.int .i64 9,.int .i64 0] 145)).alloc (.cells #[.slice (some ⟨w.heap.size+1,0,none⟩) 1 1,.slice none 0 0,.slice none 0 0,.slice (some ⟨w.heap.size+1+1,0,none⟩) 1 1,.slice none 0 0,.slice none 0 0] 29)).heap.size=w.heap.size+1+1+1+1):=lH (by simp);have OI:Hid (ChS ((((w.alloc aDY).alloc (.cells #[.string ⟨#[78]⟩] 9)).alloc (.cells #[.string ⟨#[71]⟩,.string ⟨#[78]⟩,.int .i64 0,.int .i64 9,.int .i64 0] 145)).alloc (.cells #[.slice (some ⟨w.heap.size+1,0,none⟩) 1 1,.slice none 0 0,.slice none 0 0,.slice (some ⟨w.heap.size+1+1,0,none⟩) 1 1,.slice none 0 0,.slice none 0 0] 29)) (w.heap.size+1) (w.heap.size+1+1+1) ks 0):=lH ⟨_,_,_,w.heap.size+1+1,⟨rfl,.inr ⟨w.heap.size+1,1,#[.string ⟨#[78]⟩],rfl,lR,((aD.new_ (by simp)).alloc _).alloc _,lR,by decide,rfl,rfl,fun _ _=>trivial⟩⟩,dI _ _ _ _ _,dI _ _ _ _ _,(aD.new_ (by simp)).alloc _,aD.new_ (by simp),by omega⟩;generalize ((((w.alloc aDY).alloc (.cells #[.string ⟨#[78]⟩] 9)).alloc (.cells #[.string ⟨#[71]⟩,.string ⟨#[78]⟩,.int .i64 0,.int .i64 9,.int .i64 0] 145)).alloc (.cells #[.slice (some ⟨w.heap.size+1,0,none⟩) 1 1,.slice none 0 0,.slice none 0 0,.slice (some ⟨w.heap.size+1+1,0,none⟩) 1 1,.slice none 0 0,.slice none 0 0] 29))=W at *;obtain⟨gp,hgp⟩:∃gp,gp=w.heap.size+1+1+1:=⟨_,rfl⟩;rw[<-hgp] at OI HZ ⊢;have TG:=lH hgp;clear hgp;have hwz:=HZ.o
 go_wp2_with fail
 clear hwz
 go_loopw [4,18] (fun v4 v18 wr=>∃i:Nat,i<=m/\v4=.string (aM4 i)/\v18=.int .i64 i/\ChS wr (w.heap.size+1) gp ks i/\Below (w.heap.size+1) W wr) (fun _ v18 _=>m-(intOf v18).toNat)
 case atStart=>exact⟨0,by omega,rfl,rfl,OI.o,bR⟩
 case round=>
  clear OI;obtain⟨i,hi,rfl,rfl,hs,hb⟩:=hrel;have HS:=lH hs;have HB:=lH hb;clear hs hb;by_cases aR:i<m
  ·obtain⟨k,hk⟩:∃k,ks[i]?=some k:=eE (by have:=JE.o;omega)
   have HK:=lH hk;have hr1:=(HR.o.below HW.o lR).below HB.o (Nat.le_succ _);obtain⟨pb,po,hA,hpb,-⟩:=hr1.2 (by omega);subst hA;have cp:=hr1.at_ hk;have BS:(i:Int)<(m:Int):=by omega
   have iW:=lZ i;have lE:=jM i;clear hr1 hk;(go_wp2_with fail);refine(aAW i (by omega) wr).mono ?_;rintro e w1 ⟨rfl,rfl⟩;obtain⟨v0,v1,v2,gg,o0,o1,o2,hg,hn,wO⟩:=HS.o;obtain⟨HO0,rU,F6,HG,HN⟩:=iS o0 o1 o2 hg hn;have OX:=lH wO;have ON:Hid (w.heap.size+1<=w1.heap.size):=lH (b_ wO (oO hn.lt));have uJ:=lH P2.o;have hZ:¬9223372036854775807<1+(LH i).size:=by rw[LG (by omega)];decide
   have HKD:Hid (k=ks.getD i 0):=lH (by rw[dH,HK.o];rfl);have HKV:=lH (aJo k);clear o0 o1 o2 hg hn wO HS P2 cp;obtain⟨n0,nf,nl⟩:=HN.o.e1
   go_wp2_with (at_builtin;refine uV rfl (.tmp 26) (.tmp 31) _ rfl (w.heap.size+1) 9 1 16 _ Tryz.underlying22 aEm rfl (by decide) (by decide) v0 (2*i+1) 2 2 (fC (chN i)) _ _ rfl HO0.o rfl rfl ?k1 ?k2 ON.o ?_)
   case k1=>simp[Value.oneCell']
   case k2=>omega
   intro z w5 g1 glow gblk gsz;obtain⟨Aa,ca,rfl,-,-⟩:=g1.shape;have PA0:Hid (bB sY w5 (w.heap.size+1) 9 1 (.slice Aa (2*i+1+2) ca) (2*i+1+2) (fC (chN (i+1)))):=lH (by
    have e:fC (chN (i+1))=fC (chN i)++fC [zM 65 i,zM 66 i]:=by unfold fC;rw[<-List.map_append];rfl
    rw[e];exact g1)
   have d_:=lH (HB.o.trans glow);have oS:=lH (gblk _ _ _ HN.o (by decide));have HG5:=lH (gblk _ _ _ HG.o (by decide));have PA1:=lH (rU.o.keepT (w':=w5) fun b t cs hb ht=>gblk b t cs hb (by rw[ht];decide));have PA2:=lH (F6.o.keepT (w':=w5) fun b t cs hb ht=>gblk b t cs hb (by rw[ht];decide));clear g1 glow gblk gsz n0 nl nf HB HN HG HO0 rU F6;obtain⟨n0,nf,nl⟩:=oS.o.e1;(go_upto_region 8 with fail);clear nl nf n0;have HO0:=lH (PA0.out.net (j:=0) (u:=.slice Aa (2*i+1+2) ca) oS.o (by decide));have rU:=lH (PA1.out.net (j:=0) (u:=.slice Aa (2*i+1+2) ca) oS.o (by decide));have F6:=lH (PA2.out.net (j:=0) (u:=.slice Aa (2*i+1+2) ca) oS.o (by decide));have HN:=lH (oS.o.set_ 0 (.slice Aa (2*i+1+2) ca));have HG:=lH (HG5.o.net (j:=0) (u:=.slice Aa (2*i+1+2) ca) oS.o (by decide));have HB:=lH (show Below (w.heap.size+1) W (w5.setCell ⟨gp,0,none⟩ (.slice Aa (2*i+1+2) ca)) from d_.o.setCell OX.o _);clear PA0 PA1 PA2 oS HG5 d_ ON;generalize w5.setCell ⟨gp,0,none⟩ (.slice Aa (2*i+1+2) ca)=w2 at *;have ON:Hid (w.heap.size+1<=w2.heap.size):=lH (b_ OX.o (oO HN.o.lt));have n1:=HN.o.cell 1;have nl:=HN.o.lt;have nf:=HN.o.frozen
   go_wp2_with (at_builtin;refine uV rfl (.tmp 35) (.tmp 42) _ rfl (w.heap.size+1) 148 5 56 _ Tryz.underlying23 aIv rfl (by decide) (by decide) v1 (i) 1 1 ((chS i).flatMap Sw.cells) _ _ rfl rU.o rfl rfl ?k1 ?k2 ON.o ?_)
   case k1=>simp[Value.oneCell']
   case k2=>omega
   intro z w5 g1 glow gblk gsz;obtain⟨Ab,cb,rfl,-,-⟩:=g1.shape;have PA1:Hid (bB sY w5 (w.heap.size+1) 148 5 (.slice Ab (i+1) cb) (i+1) ((chS (i+1)).flatMap Sw.cells)):=lH (by
    have e:(chS (i+1)).flatMap Sw.cells=(chS i).flatMap Sw.cells++[(⟨zM 83 i,aM4 i,zM 65 i,true,false⟩:Sw)].flatMap Sw.cells:=by rw[<-List.flatMap_append];rfl
    rw[e];exact g1)
   have d_:=lH (HB.o.trans glow);have oS:=lH (gblk _ _ _ HN.o (by decide));have HG5:=lH (gblk _ _ _ HG.o (by decide));have PA0:=lH (HO0.o.keepT (w':=w5) fun b t cs hb ht=>gblk b t cs hb (by rw[ht];decide));have PA2:=lH (F6.o.keepT (w':=w5) fun b t cs hb ht=>gblk b t cs hb (by rw[ht];decide));clear g1 glow gblk gsz n1 nl nf HB HN HG HO0 rU F6;have nl:=oS.o.lt;have nf:=oS.o.frozen;have n1:=oS.o.cell 1;(go_upto_region 9 with fail);clear nl nf n1;have HO0:=lH (PA0.out.net (j:=1) (u:=.slice Ab (i+1) cb) oS.o (by decide));have rU:=lH (PA1.out.net (j:=1) (u:=.slice Ab (i+1) cb) oS.o (by decide));have F6:=lH (PA2.out.net (j:=1) (u:=.slice Ab (i+1) cb) oS.o (by decide));have HN:=lH (oS.o.set_ 1 (.slice Ab (i+1) cb));have HG:=lH (HG5.o.net (j:=1) (u:=.slice Ab (i+1) cb) oS.o (by decide));have HB:=lH (show Below (w.heap.size+1) W (w5.setCell ⟨gp,1,none⟩ (.slice Ab (i+1) cb)) from d_.o.setCell OX.o _);clear PA0 PA1 PA2 oS HG5 d_ ON;generalize w5.setCell ⟨gp,1,none⟩ (.slice Ab (i+1) cb)=w3 at *;have ON:Hid (w.heap.size+1<=w3.heap.size):=lH (b_ OX.o (oO HN.o.lt));have n2:=HN.o.cell 2;have nl:=HN.o.lt;have nf:=HN.o.frozen
   go_wp2_with (at_builtin;refine uV rfl (.tmp 46) (.tmp 59) _ rfl (w.heap.size+1) 54 9 96 _ Tryz.underlying24 aIx rfl (by decide) (by decide) v2 (i) 1 1 ((chB ks i).flatMap Br.cells) _ _ rfl F6.o rfl rfl ?k1 ?k2 ON.o ?_)
   case k1=>simp[Value.oneCell']
   case k2=>omega
   intro z w5 g1 glow gblk gsz;obtain⟨Ad,cd,rfl,-,-⟩:=g1.shape;have PA2:Hid (bB sY w5 (w.heap.size+1) 54 9 (.slice Ad (i+1) cd) (i+1) ((chB ks (i+1)).flatMap Br.cells)):=lH (by
    have e:(chB ks (i+1)).flatMap Br.cells=(chB ks i).flatMap Br.cells++[(⟨zM 76 i,zM 65 i,zM 66 i,chX (ks.getD i 0),1000,0,0,0,0⟩:Br)].flatMap Br.cells:=by rw[<-List.flatMap_append];rfl
    rw[e,<-HKD.o,<-HKV.o.1];exact g1)
   have d_:=lH (HB.o.trans glow);have oS:=lH (gblk _ _ _ HN.o (by decide));have HG5:=lH (gblk _ _ _ HG.o (by decide));have PA0:=lH (HO0.o.keepT (w':=w5) fun b t cs hb ht=>gblk b t cs hb (by rw[ht];decide));have PA1:=lH (rU.o.keepT (w':=w5) fun b t cs hb ht=>gblk b t cs hb (by rw[ht];decide));clear g1 glow gblk gsz n2 nl nf HB HN HG HO0 rU F6;have nl:=oS.o.lt;have nf:=oS.o.frozen;have n2:=oS.o.cell 2;(go_upto_region 10 with fail);clear nl nf n2;have HO0:=lH (PA0.out.net (j:=2) (u:=.slice Ad (i+1) cd) oS.o (by decide));have rU:=lH (PA1.out.net (j:=2) (u:=.slice Ad (i+1) cd) oS.o (by decide));have F6:=lH (PA2.out.net (j:=2) (u:=.slice Ad (i+1) cd) oS.o (by decide));have HN:=lH (oS.o.set_ 2 (.slice Ad (i+1) cd));have HG:=lH (HG5.o.net (j:=2) (u:=.slice Ad (i+1) cd) oS.o (by decide));have HB:=lH (show Below (w.heap.size+1) W (w5.setCell ⟨gp,2,none⟩ (.slice Ad (i+1) cd)) from d_.o.setCell OX.o _);clear PA0 PA1 PA2 oS HG5 d_ ON;generalize w5.setCell ⟨gp,2,none⟩ (.slice Ad (i+1) cd)=w4 at *;have ON:Hid (w.heap.size+1<=w4.heap.size):=lH (b_ OX.o (oO HN.o.lt));have kL:=lN i;have iR:Hid (m-(i+1)<m-i):=lH (by omega);(go_wp2_with fail);go_roundw
   case rel=>exact⟨i+1,aR,rfl,aQ kL.o,⟨_,_,_,gg,HO0.o,rU.o,F6.o,HG.o,HN.o,OX.o⟩,HB.o⟩
   case measure=>exact iR.o
  ·have EH:i=m:=by omega
   subst EH;obtain⟨v0,v1,v2,gg,o0,o1,o2,hg,hn,wO⟩:=HS.o;obtain⟨A0,c0,rfl,-,-⟩:=o0.shape;obtain⟨A1,c1,rfl,-,-⟩:=o1.shape;obtain⟨A2,c2,rfl,-,-⟩:=o2.shape;obtain⟨HO0,rU,F6,HG⟩:=h_ o0 o1 o2 hg;have HP:=lH (P2.o.below HB.o (Nat.lt_succ_self _));have gT:=lH (HW.o.trans (HB.o.mono (Nat.le_succ _)));obtain⟨n0,n1,n2,n3,n4,n5⟩:=hn.a6;obtain⟨p0,p1,p2,p3,p4,p5,pf,pl⟩:=HP.o.e6;have s_:min ks.length 4=i:=by rw[JE.o];exact HM.o.symm
   clear o0 o1 o2 hg hn wO HS P2 HB HW;(go_wp2_with fail);have k1:=HP.o.set_ 0 (.slice A0 (2*i+1) c0);have k2:=k1.set_ 1 (.slice A1 i c1);have k3:=k2.set_ 2 (.slice A2 i c2);have k4:=k3.set_ 3 (.slice (some ⟨gg,0,none⟩) 1 1);have k5:=k4.set_ 4 (.slice none 0 0);have k6:=k5.set_ 5 (.slice none 0 0);obtain⟨q0,q1,q2,q3,q4,q5⟩:=k6.a6;refine bodyPost_ret (v:=.agg (bZ.cells ⟨A0,2*i+1,c0,A1,i,c1,A2,i,c2,some ⟨gg,0,none⟩,1,1,none,0,0,none,0,0⟩)) (by simp[results,Tryz.results47,go_sem,q0,q1,q2,q3,q4,q5];rfl) rfl ⟨((((((gT.o.setCell lR _).setCell lR _).setCell lR _).setCell lR _).setCell lR _).setCell lR _),_,rfl,?_⟩;have a0:bB sY _ (w.heap.size+1) 9 1 (.slice A0 (2*i+1) c0) (2*i+1) (fC (chN i)):=(((((HO0.o.net HP.o (by decide)).net k1 (by decide)).net k2 (by decide)).net k3 (by decide)).net k4 (by decide)).net k5 (by decide) (j:=5) (u:=.slice none 0 0);have a1:bB sY _ (w.heap.size+1) 148 5 (.slice A1 i c1) i ((chS i).flatMap Sw.cells):=(((((rU.o.net HP.o (by decide)).net k1 (by decide)).net k2 (by decide)).net k3 (by decide)).net k4 (by decide)).net k5 (by decide) (j:=5) (u:=.slice none 0 0);have a2:bB sY _ (w.heap.size+1) 54 9 (.slice A2 i c2) i ((chB ks i).flatMap Br.cells):=(((((F6.o.net HP.o (by decide)).net k1 (by decide)).net k2 (by decide)).net k3 (by decide)).net k4 (by decide)).net k5 (by decide) (j:=5) (u:=.slice none 0 0);have a3:=(((((HG.o.net HP.o (by decide)).net k1 (by decide)).net k2 (by decide)).net k3 (by decide)).net k4 (by decide)).net k5 (by decide) (j:=5) (u:=.slice none 0 0);obtain⟨_,_,e0,b0,-⟩:=oV a0.own;obtain⟨_,_,e1,b1,-⟩:=oV a1.own;obtain⟨_,_,e2,b2,-⟩:=oV a2.own;injection e0 with e01 e02 e03;subst e01;injection e1 with e11 e12 e13;subst e11;injection e2 with e21 e22 e23;subst e21;unfold aF5;rw[s_];exact⟨⟨ZD i,b0⟩,⟨ZC i,b1⟩,⟨ZE i,b2⟩,⟨rfl,M7 (T:=145) (vs:=[.string ⟨#[71]⟩,.string ⟨#[78]⟩,.int .i64 0,.int .i64 9,.int .i64 0]) a3 rfl a3.lt⟩,⟨rfl,rfl,fun h=>absurd h (Nat.lt_irrefl 0)⟩,⟨rfl,rfl,fun h=>absurd h (Nat.lt_irrefl 0)⟩,
    by show 2*i+1<=9223372036854775807;omega,by show i<=9223372036854775807;omega,by show i<=9223372036854775807;omega,show 1<=9223372036854775807 by decide,show 0<=9223372036854775807 by decide,show 0<=9223372036854775807 by decide,
    SG i (by omega),SF i (by omega),SH i (by omega),fun s hs=>by
     simp only[List.mem_cons,List.not_mem_nil,or_false] at hs;subst hs;decide,fun s hs=>absurd hs List.not_mem_nil,fun s hs=>absurd hs List.not_mem_nil⟩
end
section
open Go.ChangeShapes Go.WideShapes Go.ChangeAt Go.RowKit
attribute [local go_sem ↓] aE
attribute [local go_sem] aL aK aO a_
theorem aDO{size:Nat}{xs:List Value}(h:w.ownsRow base e size v n xs)(hg:g<base):(w.setCell ⟨g,j,none⟩ u).ownsRow base e size v n xs:=by
 refine⟨h.1,?_⟩;rcases h.2 with h1 | ⟨k,cap,cur,h1,h2,h3,h4⟩
 ·exact .inl h1
 ·exact .inr ⟨k,cap,cur,h1,h2,(show aD w k e cur from h3).far (show k≠g by omega) _,h4⟩
theorem dG.far{ms:List Mi}(h:dG w base v ms)(hg:g<base):dG (w.setCell ⟨g,j,none⟩ u) base v ms:=aDO h hg
theorem RL(h:∀q∈l,cH q):(l.map iU).map kY=l:=by
 rw[List.map_map];exact(List.map_congr_left fun q hq=>(CF (h q hq)).2).trans (List.map_id _)
structure aGU (x:bK) (ps:List Int) (ms:List Mi):Prop where
 fl:aGT x ps
 ck:cN x ms=0
 fm:∀m∈ms,cH (yM x (iJ x ps) m)
def aTg(x:bK)(ps:List Int)(ms:List Mi)(w:Wo)(e:Ending)(w':Wo):Prop:=Below w.heap.size w w'/\∃A n c B m d M mm mc b,e=.returned (.tuple #[.agg #[.slice A n c,.slice B m d],.slice M mm mc,.bool b])/\
 (b=true->aGU x ps ms/\(bD w' w'.heap.size A n ((iJ x ps).map iU)/\n<=c/\c<=maxLen)/\(bD w' w'.heap.size B m ((dM x (iJ x ps)).map iU)/\m<=d/\d<=maxLen)/\dG w' w.heap.size (.slice M mm mc) (ms.map (dQ x (iJ x ps))))
theorem yX(h:bZ)(x:bK)(h8:x.nodes.length<=8)(A:OA)(n c:Nat)(ps:List Int)(M:OA)(mm mc:Nat)(ms:List Mi)(w:Wo)(r:cL w w.heap.size h x)(hp:pK w w.heap.size A n ps)(hn:n<=9223372036854775807)(hm:eB w w.heap.size M mm ms)(hz:∀m∈ms,m.txt.size<=maxLen)(qJ:mm<=1000000)(ht:fL w):Calls Tryz.prog 17 #[.agg h.cells,.slice A n c,.slice M mm mc] w (aTg x ps ms w):=by
 have Q0:Below w.heap.size w ((w.alloc (.cells h.cells 29)).alloc yK):=(bA).alloc (by simp) _;have HW:=lH Q0;have P0:=lH ((aD.new w 29 h.cells).alloc yK);have P4:Hid (aD ((w.alloc (.cells h.cells 29)).alloc yK) (w.heap.size+1) 37 #[.slice none 0 0,.slice none 0 0]):=lH (aD.new_ (by simp));have eC:Hid (((w.alloc (.cells h.cells 29)).alloc yK).heap.size=w.heap.size+1+1):=lH (by simp);obtain⟨HPI,BM,HX,HT,H8⟩:=iS (hp.bm Q0) (hm.bm Q0) (r.up Q0) (ht.up Q0) h8;have HZ:=lH hz;clear Q0 hp hm r ht h8 hz;obtain⟨D0,r0,s0,D1,r1,s1,D2,r2,s2,D3,r3,s3,D4,r4,s4,D5,r5,s5⟩:=h;go_enter Tryz.func17,Tryz.ntmps17
 go_upto_region 1 with fail
 generalize (w.alloc (.cells (bZ.cells ⟨D0,r0,s0,D1,r1,s1,D2,r2,s2,D3,r3,s3,D4,r4,s4,D5,r5,s5⟩) 29)).alloc yK=W at *;obtain⟨y0,y1,y2,y3,y4,y5,nf,nlt⟩:=aX P0.o;dsimp only at y0 y1 y2 y3 y4 y5
 go_wp2_with fail
 refine(aAk _ x H8.o A n c ps W HX.o HPI.o hn HT.o).mono ?_;rintro e w1 ⟨bO,iH⟩;obtain⟨A1,n1,c1,B1,m1,d1,z1,rfl,h1⟩:∃A1 n1 c1 B1 m1 d1 z1,e=.returned (.tuple #[.agg #[.slice A1 n1 c1,.slice B1 m1 d1],.int .i64 z1])/\(∃ss,bD w1 w1.heap.size A1 n1 ss/\n1<=9223372036854775807/\(∀s∈ss,s.size<=maxLen)/\(z1=0->ss=(iJ x ps).map iU/\aGT x ps/\n1<=c1/\c1<=maxLen/\bD w1 w1.heap.size B1 m1 ((dM x (iJ x ps)).map iU)/\m1<=d1/\d1<=maxLen)):=by
  rcases iH with⟨d,hd,rfl⟩ | ⟨hk,A,n,c,B,m,d,rfl,⟨h1,h2,h3⟩,h4,h5,h6⟩
  ·exact⟨_,_,_,_,_,_,_,rfl,[],K4 _ _ _,by decide,fun s hs=>absurd hs List.not_mem_nil,fun h=>absurd h hd⟩
  ·refine⟨_,_,_,_,_,_,_,rfl,_,h1,?_,?_,fun _=>⟨rfl,hk,h2,h3,h4,h5,h6⟩⟩
   ·unfold maxLen at h3;omega
   ·intro s hs
    obtain⟨q,hq,rfl⟩:=List.mem_map.1 hs;exact TR (hk.fa q hq)
 obtain⟨ss,hr1,hn1,hss,mD⟩:=h1;have hz:=jO w1 (.cells #[.slice A1 n1 c1,.slice B1 m1 d1] 37);have bH:=bO.tm hz;obtain⟨HB,BK,HSS,bM,TK⟩:=iS bH (hr1.bm hz) hss mD hz;have PS:=lH (aD.new w1 37 #[.slice A1 n1 c1,.slice B1 m1 d1]);have BN:Hid (w.heap.size+1+1<=w1.heap.size):=lH (by have:=bO.size;have:=eC.o;omega);replace HX:=lH (HX.o.up bH);have HM2:=lH (BM.o.bm bH);have P2:=lH (P0.o.bl bH);clear iH hr1 hss mD hz bO bH y0 y1 y2 y3 y4 y5 nf nlt HPI BM P0
 go_upto_region 2 with fail
 generalize w1.alloc (.cells #[.slice A1 n1 c1,.slice B1 m1 d1] 37)=w2 at *;generalize mO:w1.heap.size=gs at *;obtain⟨y0,y1,y2,y3,y4,y5,nf,nlt⟩:=aX P2.o;dsimp only at y0 y1 y2 y3 y4 y5;obtain⟨q0,ql⟩:=PS.out.b1
 go_wp2_with fail
 refine(UY _ x H8.o M mm mc ms A1 n1 c1 ss w2 HX.o HM2.o BK.o HZ.o HSS.o qJ hn1 (HT.o.up HB.o)).mono ?_;rintro e w3 ⟨dK,iH⟩;obtain⟨M3,m3,k3,z3,rfl,h3⟩:∃M3 m3 k3 z3,e=.returned (.tuple #[.slice M3 m3 k3,.int .i64 z3])/\(z3=0->kM x ms ss=0/\(∀q∈fT x ms ss,cH q)/\dG w3 w2.heap.size (.slice M3 m3 k3) (ms.map (dQ x (ss.map kY)))):=by
  rcases iH with⟨h0,rfl⟩ | ⟨h0,h1,h2⟩
  ·exact⟨_,_,_,_,rfl,fun h=>absurd h h0⟩
  ·by_cases hf:∀q∈fT x ms ss,cH q
   ·obtain⟨A3,c3,rfl,h3⟩:=h1 hf
    exact⟨_,_,_,_,rfl,fun _=>⟨h0,hf,h3⟩⟩
   ·exact⟨_,_,_,_,h2 hf,fun h=>absurd h (by decide)⟩
 have fV:=cJ HB dK;obtain⟨H3,PS3,MK⟩:=dZ h3 (PS.out.bl dK) (BK.o.bm dK);have gT:=lH (HW.o.trans (fV.o.mono (by have:=eC.o;omega)));have P9:=lH (P4.o.bl fV.o);have aS9:=lH (TK.o.trans (dK.mono (by rw[<-mO];exact TK.o.size)));have mZ:Hid (w.heap.size+1<w2.heap.size):=lH (by have:=PS.out.lt;have:=BN.o;omega);clear iH h3 dK y0 y1 y2 y3 y4 y5 nf nlt q0 ql HX HM2 P2 PS BK;obtain⟨q0,q1,ql⟩:=PS3.out.b2;obtain⟨p0,p1,pf,pl⟩:=P9.o.e2;have fin:∀b:Bool,(b=true->z1=0/\z3=0)->aTg x ps ms w (.returned (.tuple #[.agg #[.slice A1 n1 c1,.slice B1 m1 d1],.slice M3 m3 k3,.bool b])) ((w3.setCell ⟨w.heap.size+1,0,none⟩ (.slice A1 n1 c1)).setCell ⟨w.heap.size+1,1,none⟩ (.slice B1 m1 d1)):=fun b hb=>by
  refine⟨(gT.o.setCell (Nat.le_succ _) _).setCell (Nat.le_succ _) _,_,_,_,_,_,_,_,_,_,_,rfl,fun hbt=>?_⟩;obtain⟨e1,e3⟩:=hb hbt;obtain⟨hs,tB,c1',c2',EE,c3',c4'⟩:=bM.o e1;obtain⟨QY,hfm,aW⟩:=H3.o e3;subst hs;rw[RL tB.fa] at aW;have k1:=P9.o.set_ 0 (.slice A1 n1 c1);have aU0:=(EE.below aS9.o lR).more (by rw[<-mO];exact aS9.o.size);refine⟨⟨tB,?_,fun m hm=>?_⟩,⟨(MK.o.keepN (i:=0) (u:=.slice A1 n1 c1) P9.o lD rfl).keepN (i:=1) (u:=.slice B1 m1 d1) k1 lD rfl,c1',c2'⟩,⟨(aU0.keepN (i:=0) (u:=.slice A1 n1 c1) P9.o lD rfl).keepN (i:=1) (u:=.slice B1 m1 d1) k1 lD rfl,c3',c4'⟩,?_⟩
  ·unfold kM at QY
   by_cases hc:cN x ms=0
   ·exact hc
   ·rw[if_pos hc] at QY
    exact absurd QY hc
  ·have:=hfm (yM x (((iJ x ps).map iU).map kY) m) (by unfold fT;exact List.mem_map.2 ⟨m,hm,rfl⟩)
   rwa[RL tB.fa] at this
  ·exact((aW.far mZ.o).far mZ.o).mono (by have:=mZ.o;omega)
 have JI:=lH fin;have k1:=P9.o.set_ 0 (.slice A1 n1 c1);have k2:=k1.set_ 1 (.slice B1 m1 d1);obtain⟨x0,x1⟩:=k2.a2;have HX0:=lH x0;have fB:=lH x1;clear fin k1 k2 x0 x1 bM H3;by_cases e1:z1=0
 ·subst e1
  by_cases e3:z3=0
  ·subst e3
   (go_wp2_with fail);have x0:=HX0.o;have x1:=fB.o;exact bodyPost_ret (v:=.tuple #[.agg #[.slice A1 n1 c1,.slice B1 m1 d1],.slice M3 m3 k3,.bool true]) (by simp[results,Tryz.results17,go_sem,x0,x1]) rfl (JI.o true fun _=>by simp)
  ·have hB:(z3 == 0)=false:=by simp[e3]
   (go_wp2_with fail);have x0:=HX0.o;have x1:=fB.o;exact bodyPost_ret (v:=.tuple #[.agg #[.slice A1 n1 c1,.slice B1 m1 d1],.slice M3 m3 k3,.bool false]) (by simp[results,Tryz.results17,go_sem,x0,x1]) rfl (JI.o false fun h=>by cases h)
 ·have hB:(z1 == 0)=false:=by simp[e1]
  (go_wp2_with fail);have x0:=HX0.o;have x1:=fB.o;exact bodyPost_ret (v:=.tuple #[.agg #[.slice A1 n1 c1,.slice B1 m1 d1],.slice M3 m3 k3,.bool false]) (by simp[results,Tryz.results17,go_sem,x0,x1]) rfl (JI.o false fun h=>by cases h)
end

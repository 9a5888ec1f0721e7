import Derived.Test.YthgdchffeigkbaaGreatDoorV36
set_option linter.unusedVariables false
set_option linter.unusedSimpArgs false
namespace Go.Proofs.YthgdchffeigkbaaGreatDoor
set_option maxHeartbeats 8000000
set_option maxRecDepth 100000
variable {bs : ByteArray} {e : Ending} {w w' : World}
section
open Go.ChangeShapes Go.WideShapes Go.ChangeAt Go.RowKit
attribute [local go_sem ↓] aE
attribute [local go_sem] aJ aI aM aR
theorem aIO(h:aTF cJ yV w e w'):Below w.heap.size w w'/\∃A c,e=.returned (.tuple #[.slice A 4 c,.int .i64 0])/\aY w' w'.heap.size A 4 suR:=by
 obtain⟨hb,⟨c,h0,h1,-⟩ | ⟨-,h1,-⟩⟩:=h
 ·exact absurd (h1.one GX) h0
 ·obtain⟨A,n,c,rfl,h2,-,-⟩:=h1 aIN
  rw[aD_.1] at h2;have hn:n=4:=h2.1.symm;subst hn;exact⟨hb,A,c,rfl,h2⟩
theorem aIL(h:aTy cJ yV w e w'):Below w.heap.size w w'/\∃A c,e=.returned (.tuple #[.slice A 4 c,.int .i64 0])/\aY w' w'.heap.size A 4 suS:=by
 obtain⟨hb,⟨c,h0,h1,-⟩ | ⟨-,h1,-⟩⟩:=h
 ·exact absurd (h1.one GX) h0
 ·obtain⟨A,n,c,rfl,h2,-,-⟩:=h1 aIM
  rw[aD_.2] at h2;have hn:n=4:=h2.1.symm;subst hn;exact⟨hb,A,c,rfl,h2⟩
theorem aIK(h:aTu cJ yV w e w'):Below w.heap.size w w'/\e=.returned (.tuple #[.int .i64 2,.int .i64 0]):=by
 obtain⟨hb,⟨c,h0,h1,-⟩ | ⟨-,b,h1,h2⟩⟩:=h
 ·exact absurd (h1.one GX) h0
 ·have e:=OD h1
  subst e;rcases h2 with⟨h,-⟩ | ⟨-,h⟩
  ·omega
  ·exact⟨hb,h⟩
theorem aIQ(h:aVG cJ yV w e w'):Below w.heap.size w w'/\∃A c,e=.returned (.tuple #[.slice A 1 c,.int .i64 0])/\o_ w' w'.heap.size A 1 [2]:=by
 obtain⟨hb,⟨c,h0,h1,-⟩ | ⟨-,r,A,c,h1,rfl,h2,-,-⟩⟩:=h
 ·exact absurd (h1.one GX) h0
 ·have e:=aNc h1
  subst e;exact⟨hb,A,c,rfl,h2⟩
theorem AA(w:Wo)(ht:dM w):Calls Tryz.prog 33 #[] w fun e w'=>e=.returned (.bool true)/\Below w.heap.size w w':=by
 have HT:=lH ht;clear ht;go_enter Tryz.func33,Tryz.ntmps33
 go_wp2_with fail
 refine(jQ ⟨#[76]⟩ ⟨#[53]⟩ w).mono ?_;rintro e w1 ⟨rfl,bC⟩
 go_wp2_with fail
 refine(jQ ⟨#[76]⟩ ⟨#[53]⟩ w1).mono ?_;rintro e w2 ⟨rfl,bH⟩
 go_wp2_with fail
 refine(jQ ⟨#[76]⟩ ⟨#[57]⟩ w2).mono ?_;rintro e w2b ⟨rfl,aTd⟩
 go_wp2_with fail
 refine(jQ ⟨#[77]⟩ ⟨#[50]⟩ w2b).mono ?_;rintro e w3 ⟨rfl,cN⟩;have GI:=bC.tm bH;have aGk:=GI.tm aTd;have dY:=lH (aGk.tm cN);clear bC bH cN aTd GI aGk
 go_upto_region 2 with fail
 have hz:=jT w3 (.cells #[.int .i64 0,.string ⟨#[76]⟩,.string ⟨#[53]⟩,.int .i64 1,.int .i64 0,.string ⟨#[76]⟩,.string ⟨#[53]⟩,.int .i64 1,.int .i64 0,.string ⟨#[76]⟩,.string ⟨#[57]⟩,.int .i64 1,.int .i64 0,.string ⟨#[77]⟩,.string ⟨#[50]⟩,.int .i64 1] 57);have HB:=bW dY hz;have HM:Hid (fP (w3.alloc (.cells #[.int .i64 0,.string ⟨#[76]⟩,.string ⟨#[53]⟩,.int .i64 1,.int .i64 0,.string ⟨#[76]⟩,.string ⟨#[53]⟩,.int .i64 1,.int .i64 0,.string ⟨#[76]⟩,.string ⟨#[57]⟩,.int .i64 1,.int .i64 0,.string ⟨#[77]⟩,.string ⟨#[50]⟩,.int .i64 1] 57)) (w3.alloc (.cells #[.int .i64 0,.string ⟨#[76]⟩,.string ⟨#[53]⟩,.int .i64 1,.int .i64 0,.string ⟨#[76]⟩,.string ⟨#[53]⟩,.int .i64 1,.int .i64 0,.string ⟨#[76]⟩,.string ⟨#[57]⟩,.int .i64 1,.int .i64 0,.string ⟨#[77]⟩,.string ⟨#[50]⟩,.int .i64 1] 57)).heap.size (some ⟨w3.heap.size,0,none⟩) 4 yV):=lH ⟨rfl,I_ (vs:=yV.flatMap Mi.cells) (T:=57) (aG.new w3 _ _) rfl (by simp)⟩;clear hz dY;generalize w3.alloc (.cells #[.int .i64 0,.string ⟨#[76]⟩,.string ⟨#[53]⟩,.int .i64 1,.int .i64 0,.string ⟨#[76]⟩,.string ⟨#[53]⟩,.int .i64 1,.int .i64 0,.string ⟨#[76]⟩,.string ⟨#[57]⟩,.int .i64 1,.int .i64 0,.string ⟨#[77]⟩,.string ⟨#[50]⟩,.int .i64 1] 57)=w4 at *;generalize w3.heap.size=gl at *
 go_wp2_with fail
 refine(kK w4).mono ?_;rintro e wa1 ⟨h1,rfl,O7,bC⟩;replace HB:=lH (HB.o.tm bC);replace HM:=lH (HM.o.bm bC);have HR:=lH O7;have vX:=lH (HT.o.up HB.o);clear bC O7
 go_wp2_with fail
 refine(ME h1 cJ (by decide) _ 4 4 yV wa1 HR.o HM.o ZL (by decide) vX.o).mono ?_;intro e wb1 hh;obtain⟨pE,A1,c1,rfl,GB⟩:=aIO hh;replace HB:=lH (HB.o.tm pE);replace HM:=lH (HM.o.bm pE);have HA:=lH GB;clear GB;clear hh pE HR vX
 go_wp2_with fail
 refine(kK wb1).mono ?_;rintro e wa2 ⟨h2,rfl,AY,bH⟩;replace HB:=lH (HB.o.tm bH);replace HM:=lH (HM.o.bm bH);replace HA:=lH (HA.o.bm bH);have HR:=lH AY;have vX:=lH (HT.o.up HB.o);clear bH AY
 go_wp2_with fail
 refine(RN h2 cJ (by decide) _ 4 4 yV wa2 HR.o HM.o ZL (by decide) vX.o).mono ?_;intro e wb2 hh;obtain⟨pE,A2,c2,rfl,GB⟩:=aIL hh;replace HB:=lH (HB.o.tm pE);replace HM:=lH (HM.o.bm pE);replace HA:=lH (HA.o.bm pE);have HS:=lH GB;clear GB;clear hh pE HR vX
 go_wp2_with fail
 refine(kK wb2).mono ?_;rintro e wa3 ⟨h3,rfl,vR,cN⟩;replace HB:=lH (HB.o.tm cN);replace HM:=lH (HM.o.bm cN);replace HA:=lH (HA.o.bm cN);replace HS:=lH (HS.o.bm cN);have HR:=lH vR;have vX:=lH (HT.o.up HB.o);clear cN vR
 go_wp2_with fail
 refine(IR h3 cJ (by decide) _ 4 4 yV wa3 HR.o HM.o ZL (by decide) vX.o).mono ?_;intro e wb3 hh;obtain⟨pE,rfl⟩:=aIK hh;replace HB:=lH (HB.o.tm pE);replace HM:=lH (HM.o.bm pE);replace HA:=lH (HA.o.bm pE);replace HS:=lH (HS.o.bm pE);clear hh pE HR vX
 go_wp2_with fail
 refine(kK wb3).mono ?_;rintro e wa4 ⟨h4,rfl,DE,eR⟩;replace HB:=lH (HB.o.tm eR);replace HM:=lH (HM.o.bm eR);replace HA:=lH (HA.o.bm eR);replace HS:=lH (HS.o.bm eR);have HR:=lH DE;have vX:=lH (HT.o.up HB.o);clear eR DE
 go_wp2_with fail
 refine(aCI h4 cJ (by decide) _ 4 4 yV wa4 HR.o HM.o ZL (by decide) vX.o).mono ?_;intro e wb4 hh;obtain⟨pE,A4,c4,rfl,GB⟩:=aIQ hh;replace HB:=lH (HB.o.tm pE);replace HM:=lH (HM.o.bm pE);replace HA:=lH (HA.o.bm pE);replace HS:=lH (HS.o.bm pE);have HI:=lH GB;clear GB;clear hh pE HR vX;replace HA:Hid (aY wb4 wb4.heap.size A1 4 [⟨#[45,52,47,51]⟩,⟨#[45,52,47,51]⟩,⟨#[56,47,51]⟩,⟨#[48]⟩]):=HA;replace HS:Hid (aY wb4 wb4.heap.size A2 4 [⟨#[50,47,51]⟩,⟨#[50,47,51]⟩,⟨#[50,47,51]⟩,⟨#[48]⟩]):=HS;clear HM
 go_wp2_with fail
 have hz:=jT wb4 (.cells #[.string ⟨#[45,52,47,51]⟩,.string ⟨#[45,52,47,51]⟩,.string ⟨#[56,47,51]⟩,.string ⟨#[48]⟩] 55);have HL:Hid (aY (wb4.alloc (.cells #[.string ⟨#[45,52,47,51]⟩,.string ⟨#[45,52,47,51]⟩,.string ⟨#[56,47,51]⟩,.string ⟨#[48]⟩] 55)) (wb4.alloc (.cells #[.string ⟨#[45,52,47,51]⟩,.string ⟨#[45,52,47,51]⟩,.string ⟨#[56,47,51]⟩,.string ⟨#[48]⟩] 55)).heap.size (some ⟨wb4.heap.size,0,none⟩) 4 [⟨#[45,52,47,51]⟩,⟨#[45,52,47,51]⟩,⟨#[56,47,51]⟩,⟨#[48]⟩]):=lH (fF (zs:=[⟨#[45,52,47,51]⟩,⟨#[45,52,47,51]⟩,⟨#[56,47,51]⟩,⟨#[48]⟩]) (T:=55) (aG.new_ (w:=wb4) (by simp)) (by simp));replace HB:=lH (HB.o.tm hz);replace HA:=lH (HA.o.bm hz);replace HS:=lH (HS.o.bm hz);replace HI:=lH (HI.o.bm hz);clear hz;generalize wb4.alloc (.cells #[.string ⟨#[45,52,47,51]⟩,.string ⟨#[45,52,47,51]⟩,.string ⟨#[56,47,51]⟩,.string ⟨#[48]⟩] 55)=wl1 at *;refine(oU A1 4 c1 _ _ 4 4 _ wl1 HA.o HL.o (by decide) (by decide)).mono ?_;rintro e wm1 ⟨rfl,hb⟩;rw[decide_eq_true rfl];replace HB:=lH (HB.o.tm hb);replace HS:=lH (HS.o.bm hb);replace HI:=lH (HI.o.bm hb);clear hb HL HA
 go_wp2_with fail
 have hz:=jT wm1 (.cells #[.string ⟨#[50,47,51]⟩,.string ⟨#[50,47,51]⟩,.string ⟨#[50,47,51]⟩,.string ⟨#[48]⟩] 55);have HL:Hid (aY (wm1.alloc (.cells #[.string ⟨#[50,47,51]⟩,.string ⟨#[50,47,51]⟩,.string ⟨#[50,47,51]⟩,.string ⟨#[48]⟩] 55)) (wm1.alloc (.cells #[.string ⟨#[50,47,51]⟩,.string ⟨#[50,47,51]⟩,.string ⟨#[50,47,51]⟩,.string ⟨#[48]⟩] 55)).heap.size (some ⟨wm1.heap.size,0,none⟩) 4 [⟨#[50,47,51]⟩,⟨#[50,47,51]⟩,⟨#[50,47,51]⟩,⟨#[48]⟩]):=lH (fF (zs:=[⟨#[50,47,51]⟩,⟨#[50,47,51]⟩,⟨#[50,47,51]⟩,⟨#[48]⟩]) (T:=55) (aG.new_ (w:=wm1) (by simp)) (by simp));replace HB:=lH (HB.o.tm hz);replace HS:=lH (HS.o.bm hz);replace HI:=lH (HI.o.bm hz);clear hz;generalize wm1.alloc (.cells #[.string ⟨#[50,47,51]⟩,.string ⟨#[50,47,51]⟩,.string ⟨#[50,47,51]⟩,.string ⟨#[48]⟩] 55)=wl2 at *;refine(oU A2 4 c2 _ _ 4 4 _ wl2 HS.o HL.o (by decide) (by decide)).mono ?_;rintro e wm2 ⟨rfl,hb⟩;rw[decide_eq_true rfl];replace HB:=lH (HB.o.tm hb);replace HI:=lH (HI.o.bm hb);clear hb HL HS
 go_wp2_with fail
 have hz:=jT wm2 (.cells #[.int .i64 2] 3);have HL:Hid (o_ (wm2.alloc (.cells #[.int .i64 2] 3)) (wm2.alloc (.cells #[.int .i64 2] 3)).heap.size (some ⟨wm2.heap.size,0,none⟩) 1 [2]):=lH (I_ (vs:=ints [2]) (T:=3) (aG.new wm2 _ _) rfl (by simp));replace HB:=lH (HB.o.tm hz);replace HI:=lH (HI.o.bm hz);clear hz;generalize wm2.alloc (.cells #[.int .i64 2] 3)=wl3 at *;refine(BL A4 1 c4 [2] _ 1 1 [2] wl3 HI.o HL.o (by decide)).mono ?_;rintro e wm3 ⟨rfl,nq,hw⟩;have hb:Below wl3.heap.size wl3 wm3:=by rw[hw];exact bD bR nq
 rw[show MD [2] [2]=true from by decide];replace HB:=lH (HB.o.tm hb);clear hw;clear hb HL HI
 go_wp2_with fail
 go_ret;exact⟨rfl,HB.o⟩
theorem aNi{A:OA}{n d:Nat}{ss:List ByteArray}(h:aY w w.heap.size A n ss)(hn:n<=9223372036854775807):xL ((w.alloc (.cells #[.string bs] 55)).alloc (.cells #[.slice A n d,.slice (some ⟨w.heap.size,0,none⟩) 1 1] 35)) ((w.alloc (.cells #[.string bs] 55)).alloc (.cells #[.slice A n d,.slice (some ⟨w.heap.size,0,none⟩) 1 1] 35)).heap.size (some ⟨w.heap.size+1,0,none⟩) 2 [⟨A,n,d,ss⟩,⟨some ⟨w.heap.size,0,none⟩,1,1,[bs]⟩]:=by
 have hb:Below w.heap.size w ((w.alloc (.cells #[.string bs] 55)).alloc (.cells #[.slice A n d,.slice (some ⟨w.heap.size,0,none⟩) 1 1] 35)):=(bA).alloc (by simp) _;have hk:aG ((w.alloc (.cells #[.string bs] 55)).alloc (.cells #[.slice A n d,.slice (some ⟨w.heap.size,0,none⟩) 1 1] 35)) (w.heap.size+1) 35 #[.slice A n d,.slice (some ⟨w.heap.size,0,none⟩) 1 1]:=aG.new_ (by simp);have rV:aG ((w.alloc (.cells #[.string bs] 55)).alloc (.cells #[.slice A n d,.slice (some ⟨w.heap.size,0,none⟩) 1 1] 35)) w.heap.size 55 #[.string bs]:=(aG.new w _ _).alloc _;refine⟨rfl,⟨rfl,fun _=>⟨w.heap.size+1,0,rfl,hk.lt,fun j u hu=>?_⟩⟩,fun v hv=>?_⟩
 ·rw[Nat.zero_add,hk.cell j]
  simpa[Vc.cells] using hu
 ·rcases List.mem_cons.1 hv with rfl | hv
  ·exact⟨(h.below hb lR).more hb.size,hn⟩
  ·rw[List.mem_singleton.1 hv]
   refine⟨⟨rfl,rfl,fun _=>⟨w.heap.size,0,rfl,rV.lt,fun j u hu=>?_⟩⟩,show 1<=9223372036854775807 by decide⟩;rw[Nat.zero_add,rV.cell j];simpa[fN] using hu
theorem l48{t:ByteArray}:(t.toList == [48])=pH t ⟨#[48]⟩:=by
 rw[<-aR,show(⟨#[48]⟩:ByteArray).toList=[48] from by decide+kernel]
theorem aEG{p:Rat}{sv:ByteArray}(hp:bP p)(hb:cI bs.data.toList=0)(hs:MQ (fun p q=>p+q) (bN p) bs=sv)(hv:cI sv.data.toList=0):gC sv=p+gC bs:=by
 rw[OS (cV hp).1 hb,(cV hp).2] at hs;unfold rnS at hs;split at hs
 ·rename_i hf
  rw[<-hs];exact(cV hf).2
 ·rw[<-hs] at hv
  exact absurd hv (by decide)
theorem aJd{x:bO}{ms one:List Mi}{al:List Rat}{j:Nat}{m0:Mi}{sv:ByteArray}(hm:ms[j]?=some m0)(h1:one=(ms.map (tJ x al)).set j { tJ x al m0 with txt:=sv })(hs:MQ (fun p q=>p+q) (bN (mU x al m0)) bs=sv)(hf:bP (mU x al m0))(hb:cI bs.data.toList=0)(hfv:∀m∈ms,bP (mU x al m))(htx:∀m∈one,cI m.txt.data.toList=0):nN ms one/\∀i m,one[i]?=some m->gC m.txt=mU x al m+if i=j then gC bs else 0:=by
 have oP:=(dH.1 hm).1
 constructor
 ·unfold nN
  apply List.ext_getElem?;intro i;rw[h1,List.map_set,List.map_map,List.getElem?_set,iY];by_cases e:j=i
  ·subst e
   rw[if_pos rfl,jO,if_pos oP,hm];rfl
  ·rw[if_neg e,iY]
   rfl
 ·intro i m hi
  by_cases e:j=i
  ·subst e
   have XK:=htx m (bV hi);rw[h1,List.getElem?_set,if_pos rfl,if_pos (by rw[jO];exact oP)] at hi;injection hi with hi;subst hi;rw[if_pos rfl];exact aEG hf hb hs XK
  ·rw[h1,List.getElem?_set,if_neg e,iY] at hi
   rw[if_neg (fun e2=>e e2.symm),Rat.add_zero];cases h2:ms[i]? with
   | none=>rw[h2] at hi;cases hi
   | some m1=>
    rw[h2] at hi;injection hi with hi;subst hi;exact(cV (hfv m1 (bV h2))).2
theorem aKk{s:ByteArray}(h:GK s ⟨#[48]⟩≠0):cI s.data.toList=0/\gC s≠0:=by
 unfold GK at h;split at h
 ·rename_i h1
  refine⟨oD.1 h1 s (by simp),fun e=>h ?_⟩;rw[e,<-J3.1,(cV (AL (by decide+kernel))).2];rfl
 ·exact absurd rfl h
theorem VN{x:bO}{ms:List Mi}{v:Vc}{A:OA}{n c:Nat}(h:kG x ms [v,⟨A,n,c,[bs]⟩]=true):x.nodes.length<=8/\x.brs.length<=10/\(∀m∈ms,m.txt.size<=24)/\(∀s∈v.ss,s.size<=24)/\bs.size<=24:=by
 unfold kG uY at h;simp only[Bool.and_eq_true,decide_eq_true_eq,List.all_eq_true,List.mem_cons,List.not_mem_nil,or_false] at h;exact⟨h.1.1.1,h.1.1.2,h.1.2,h.2 v (.inl rfl),h.2 _ (.inr rfl) bs (by simp)⟩
theorem aRo(h:bY)(x:bO)(A:OA)(n c:Nat)(ms0:List Mi)(w:Wo)(r:cQ w w.heap.size h x)(hm:fP w w.heap.size A n ms0)(B:OA)(q d:Nat)(ss:List ByteArray)(kk:Int)(bs:ByteArray)(hR:aY w w.heap.size B q ss)(FR:-9223372036854775808<=kk)(rV:kk<=9223372036854775807)(hq:q*16<=140737488355328)(hnc:n<=c)(hc:c<=9223372036854775807)(ht:dM w):Calls Tryz.prog 13 #[.agg h.cells,.slice A n c,.slice B q d,.int .i64 kk,.string bs] w fun e w'=>e=.returned (.bool true)/\Below w.heap.size w w':=by
 obtain⟨k,hk8,rJ,aJH⟩:∃k:Nat,k<=7/\k<=n/\min (n:Int) 7=(k:Int):=by
  by_cases h:(7:Int)<(n:Int)
  ·exact⟨7,by omega,by omega,by omega⟩
  ·exact⟨n,by omega,by omega,by omega⟩
 have hkc:(k:Int)<=(c:Int):=by omega
 have S3:=hm.take rJ;generalize hms:ms0.take k=ms at *;clear hms hm;have K0:=jT w (.cells h.cells 29);obtain⟨HK,P0,HX,HM,HT⟩:=kN K0 (aG.new w 29 h.cells) (r.up K0) (S3.bm K0) (ht.up K0);have HS:=lH (hR.bm K0);have NY:Hid (ss.length=q):=lH hR.1;have mA:Hid (ms.length=k):=lH S3.1;have dZ:Hid (w.heap.size<=(w.alloc (.cells h.cells 29)).heap.size):=lH K0.size;clear K0 S3 r ht hR;obtain⟨D0,r0,s0,D1,r1,s1,D2,r2,s2,D3,r3,s3,D4,r4,s4,D5,r5,s5⟩:=h;go_enter Tryz.func13,Tryz.ntmps13
 go_wp2_with fail
 generalize w.alloc (.cells (bY.cells ⟨D0,r0,s0,D1,r1,s1,D2,r2,s2,D3,r3,s3,D4,r4,s4,D5,r5,s5⟩) 29)=W at *;have HK:=lH (HK.o.trans ((Below.refl W.heap.size W).mono dZ.o));by_cases aX4:k=0
 ·subst aX4
  refine(AA W HT.o).mono ?_;rintro e w0 ⟨rfl,AZ⟩;have dA:=bW HK AZ;replace HT:=lH (HT.o.up AZ);clear AZ;(go_wp2_with fail);refine(uD w0 HT.o).mono ?_;rintro e w1 ⟨rfl,bC⟩;have bT:=bW dA bC;replace HT:=lH (HT.o.up bC);clear bC;(go_wp2_with fail);refine(AA w1 HT.o).mono ?_;rintro e w2 ⟨rfl,bH⟩;have cH:=bW bT bH;replace HT:=lH (HT.o.up bH);clear bH;(go_wp2_with fail);refine(uD w2 HT.o).mono ?_;rintro e w3 ⟨rfl,cN⟩;have dY:=bW cH cN;replace HT:=lH (HT.o.up cN);clear cN;(go_wp2_with fail);go_ret;exact⟨rfl,dY.o⟩
 have hkz:((k:Int) == 0)=false:=by simp;omega
 refine(AA W HT.o).mono ?_;rintro e w0 ⟨rfl,AZ⟩;have dA:=bW HK AZ;replace P0:=lH (P0.o.bl AZ);replace HM:=lH (HM.o.bm AZ);replace HS:=lH (HS.o.bm AZ);replace HX:=lH (HX.o.up AZ);replace HT:=lH (HT.o.up AZ);clear AZ
 go_wp2_with fail
 refine(uD w0 HT.o).mono ?_;rintro e w1 ⟨rfl,bC⟩;have bT:=bW dA bC;replace P0:=lH (P0.o.bl bC);replace HM:=lH (HM.o.bm bC);replace HS:=lH (HS.o.bm bC);replace HX:=lH (HX.o.up bC);replace HT:=lH (HT.o.up bC);clear bC;clear HK dZ dA;have PNX:=P0.o;obtain⟨y0,y1,y2,y3,y4,y5,nf,nlt⟩:=aW PNX;dsimp only at y0 y1 y2 y3 y4 y5;clear PNX
 go_wp2_with fail
 clear y0 y1 y2 y3 y4 y5 nf nlt;have hz:Below w1.heap.size w1 ((w1.alloc (.cells #[.string bs] 55)).alloc (.cells #[.slice B q d,.slice (some ⟨w1.heap.size,0,none⟩) 1 1] 35)):=(bA).alloc (by simp) _;have YQ:=lH (aNi (d:=d) (bs:=bs) HS.o (by omega));clear hkz;have a03:=bW bT hz;replace P0:=lH (P0.o.bl hz);replace HM:=lH (HM.o.bm hz);replace HS:=lH (HS.o.bm hz);replace HX:=lH (HX.o.up hz);replace HT:=lH (HT.o.up hz);clear hz;generalize ((w1.alloc (.cells #[.string bs] 55)).alloc (.cells #[.slice B q d,.slice (some ⟨w1.heap.size,0,none⟩) 1 1] 35))=w1b at *;refine(MB _ x A k c ms _ 2 2 [⟨B,q,d,ss⟩,⟨some ⟨w1.heap.size,0,none⟩,1,1,[bs]⟩] w1b HX.o HM.o YQ.o (by omega) (by decide)).mono ?_;rintro e w2 ⟨rfl,bH⟩;have cH:=bW a03 bH;replace P0:=lH (P0.o.bl bH);replace HM:=lH (HM.o.bm bH);replace HS:=lH (HS.o.bm bH);replace HX:=lH (HX.o.up bH);replace HT:=lH (HT.o.up bH);clear bH;clear YQ;cases hsm:kG x ms [⟨B,q,d,ss⟩,⟨some ⟨w1.heap.size,0,none⟩,1,1,[bs]⟩] with
 | false=>
  (go_wp2_with fail);go_ret;exact⟨rfl,cH.o⟩
 | true=>
  obtain⟨h8,h10,aNE,aNS,aCq⟩:=VN hsm;have aTO:=lH aNE;have HZ:Hid (∀m∈ms,m.txt.size<=maxLen):=lH fun m hm=>cO (aNE m hm) (by decide);have HSM:Hid (∀s∈ss,s.size<=maxLen):=lH fun s hs=>cO (aNS s hs) (by decide);have aDj:=lH aCq;have DL:Hid (bs.size<=maxLen):=lH (cO aCq (by decide));have H10:=lH h10;clear hsm aNE aNS aCq h10;have PNX:=P0.o;obtain⟨y0,y1,y2,y3,y4,y5,nf,nlt⟩:=aW PNX;dsimp only at y0 y1 y2 y3 y4 y5;clear PNX
  (go_wp2_with fail);clear y0 y1 y2 y3 y4 y5 nf nlt;refine(TB _ x h8 w2 HX.o).mono ?_;rintro e w3 ⟨cN,hfr⟩;have dY:=bW cH cN;replace P0:=lH (P0.o.bl cN);replace HM:=lH (HM.o.bm cN);replace HS:=lH (HS.o.bm cN);replace HX:=lH (HX.o.up cN);replace HT:=lH (HT.o.up cN);clear cN;obtain⟨A3,c3,F3,e3,hF3,aFH,he3⟩:∃(A3:OA)(c3:Nat)(F3:List Nat),e=.returned (.tuple #[.slice A3 F3.length c3,.int .i64 (b_ x)])/\(b_ x=0->F3=aA x)/\o_ w3 w3.heap.size A3 F3.length (d9 F3)/\F3.length<=8:=by
   rcases hfr with⟨h1,rfl⟩ | ⟨h1,A3,c3,rfl,h3⟩
   ·exact⟨none,0,[],rfl,fun h=>absurd h h1,⟨rfl,fun h=>absurd h (by decide)⟩,by decide⟩
   ·exact⟨A3,c3,aA x,by rw[h1],fun _=>rfl,h3,fZ (lW h1) h8⟩
  subst e3;have KW:=lH hF3;have LB:=lH aFH;clear hfr hF3 aFH;have hz:=jT w3 (.cells #[] 55);have HZW:=lH hz;clear hz;have HQ9:=lH hq
  go_wp2_with (at_builtin;refine N6 rfl (.tmp 56) (.tmp 57) _ rfl w3.heap.size Tryz.underlying35 (.slice (some ⟨w3.heap.size,0,none⟩) 0 0) [] rfl WC B q d ss rfl ?k1 ?k2 ?k3 q ?k4 ?_)
  case k1=>exact(HS.o.below HZW.o lR).more HZW.o.size
  case k2=>simp only[zW_];omega
  case k3=>exact HZW.o.size
  case k4=>rw[List.nil_append];exact NY.o
  intro Ay cy w5 ho hb;have HO5:Hid (l7 w5 w3.heap.size (.slice Ay q cy) ss):=lH ho;have HZ5:=lH (HZW.o.trans hb);clear ho hb HZW;(go_wp2_with fail)
  go_loopw [61] (fun v61 wr=>∃i:Nat,i<=q/\v61=.int .i64 i/\l7 wr w3.heap.size (.slice Ay q cy) ((uN F3 ss).take i++ss.drop i)/\Below w3.heap.size w3 wr) (fun v61 _=>q-(intOf v61).toNat)
  case atStart=>exact⟨0,by omega,rfl,HO5.o,HZ5.o⟩
  case round=>
   clear HO5 HZ5;obtain⟨i,hi,rfl,ho,hb⟩:=hrel;have HO:=lH ho;have HB:=lH hb;clear ho hb;by_cases aU:i<q
   ·obtain⟨si,SV⟩:∃si,ss[i]?=some si:=eA (by have:=NY.o;omega)
    have zV:((uN F3 ss).take i).length=i:=by rw[kR,tG];have:=NY.o;omega
    have aRW:((uN F3 ss).take i++ss.drop i)[i]?=some si:=by
     rw[DN (by omega),zV,Nat.sub_self,List.getElem?_drop];exact SV
    have gQ:=lH (aGn (F:=F3) SV);have HSI:=lH SV;have sL:=lH zV;have hqq:=HQ9.o;have fY:(i:Int)<(q:Int):=by omega
    have lB:=lZ i;have rJ:=jF i;have l9:=lN i;have jV:Hid (q-(i+1)<q-i):=lH (by omega);have HIr:=lH (LB.o.bm HB.o);have aUf:Hid (ss.drop i=si::ss.drop (i+1)):=lH (by
     rw[List.drop_eq_getElem_cons (by have:=NY.o;omega)];rw[iB (by have:=NY.o;omega)] at SV;injection SV with SV;rw[SV])
    have HO2:=lH (HO.o.at_ aRW);clear SV aRW zV fY lB rJ;(go_upto_region 11 with fail);(go_wp2_with fail);refine(XV A3 F3.length c3 (d9 F3) (i:Int) wr HIr.o (by omega)).mono ?_;rintro e w6 ⟨rfl,rfl⟩;cases aTe:(d9 F3).any (· == (i:Int)) with
    | true=>
     have HE:Hid ((uN F3 ss).take (i+1)++ss.drop (i+1)=(uN F3 ss).take i++ss.drop i):=lH (by rw[gQ.o,aTe,if_pos rfl,aUf.o,List.append_assoc];rfl);have fY:(i:Int)<(q:Int):=by omega
     (go_wp2_with fail);go_roundw
     case rel=>exact⟨i+1,aU,aO l9.o,by rw[HE.o];exact HO.o,HB.o⟩
     case measure=>exact jV.o
    | false=>
     obtain⟨g,hA,yJ,zV,c0,cf,JT⟩:=HO2.o;subst hA;have GN:=lH (JT ⟨#[48]⟩);have Y2:=lH yJ;have HE:Hid ((uN F3 ss).take (i+1)++ss.drop (i+1)=((uN F3 ss).take i++ss.drop i).set i ⟨#[48]⟩):=lH (by
      rw[gQ.o,aTe,if_neg (by decide),aUf.o,List.set_append_right _ _ (by rw[sL.o];exact lR),sL.o,Nat.sub_self,List.append_assoc];rfl)
     have fY:(i:Int)<(q:Int):=by omega
     have lB:=lZ i;have rJ:=jF i;clear JT yJ HO2;(go_wp2_with fail);go_roundw
     case rel=>exact⟨i+1,aU,aO l9.o,by rw[HE.o];exact GN.o,HB.o.setCell Y2.o _⟩
     case measure=>exact jV.o
   ·have DG:i=q:=by omega
    have QE:Hid (l7 wr w3.heap.size (.slice Ay q cy) (uN F3 ss)):=lH (by
     have h:=HO.o;rw[nL (by rw[tG];have:=NY.o;omega),List.drop_eq_nil_iff.2 (by have:=NY.o;omega),List.append_nil] at h;exact h)
    have fY:¬(i:Int)<(q:Int):=by omega
    have hb:=HB.o;have HBr:=bW dY hb;replace P0:=lH (P0.o.bl hb);replace HM:=lH (HM.o.bm hb);replace HS:=lH (HS.o.bm hb);replace HX:=lH (HX.o.up hb);replace HT:=lH (HT.o.up hb);clear hb;have HG:=lH QE.o.rd;have sL:Hid ((uN F3 ss).length=q):=lH (by rw[tG];exact NY.o);have HGZ:Hid (∀s∈uN F3 ss,s.size<=maxLen):=lH fun s hs=>by
     obtain⟨j,hj⟩:=List.mem_iff_getElem?.1 hs;obtain⟨t,ht⟩:∃t,ss[j]?=some t:=eA (by have:=(dH.1 hj).1;rwa[tG] at this);rw[PH ht] at hj;injection hj with hj;rw[<-hj];split
     ·exact HSM.o t (bV ht)
     ·show(⟨#[48]⟩:ByteArray).size<=maxLen;unfold maxLen;decide+kernel
    clear HO HB QE DG LB dY;obtain⟨HX0,P00,HT0⟩:=d_ HX.o P0.o HT.o;have PNX:=P0.o;obtain⟨y0,y1,y2,y3,y4,y5,nf,nlt⟩:=aW PNX;dsimp only at y0 y1 y2 y3 y4 y5;clear PNX;(go_wp2_with fail);clear y0 y1 y2 y3 y4 y5 nf nlt;refine(WX _ x h8 A k c ms Ay q cy (uN F3 ss) wr HX.o HM.o HG.o HZ.o HGZ.o (by omega) (by have:=HQ9.o;omega) HT.o).mono ?_;rintro e w6 ⟨fT,hex⟩;have LA:=lH fT;have fL:=bW HBr fT;replace P0:=lH (P0.o.bl fT);replace HG:=lH (HG.o.bm fT);replace HX:=lH (HX.o.up fT);replace HT:=lH (HT.o.up fT);clear fT;generalize hog:uN F3 ss=og at *;obtain⟨Am,nm,cm,msm,fc,he6,hom,aJQ,aJP,aJO⟩:∃(Am:OA)(nm cm:Nat)(msm:List Mi)(fc:Int),e=.returned (.tuple #[.slice Am nm cm,.int .i64 fc])/\(fc=0->eN w6 wr.heap.size (.slice Am nm cm) msm)/\(fc=0->msm=ms.map (tJ x (og.map gC)))/\(fc=0->iZ x ms og=0/\∀p∈eT x ms og,bP p)/\(b_ x≠0->fc≠0):=by
     have hnz:dJ x ms≠0->iZ x ms og≠0:=fun h e=>h (wS e).1;have hnk:b_ x≠0->iZ x ms og≠0:=fun h=>hnz (fun e=>h (WU e).1);rcases hex with⟨h1,rfl⟩ | ⟨h1,h2,h3⟩
     ·exact⟨none,0,0,[],_,rfl,fun h=>absurd h h1,fun h=>absurd h h1,fun h=>absurd h h1,fun _=>h1⟩
     ·by_cases hf:∀p∈eT x ms og,bP p
      ·obtain⟨A6,c6,rfl,ho6⟩:=h2 hf
       exact⟨A6,ms.length,c6,_,0,rfl,fun _=>ho6,fun _=>rfl,fun _=>⟨h1,hf⟩,fun h=>absurd h1 (hnk h)⟩
      ·obtain rfl:=h3 hf
       exact⟨none,0,0,[],2,rfl,fun h=>absurd h (by decide),fun h=>absurd h (by decide),fun h=>absurd h (by decide),fun _=>by decide⟩
    subst he6;clear hex HM HS;by_cases hfc:fc=0
    case neg=>
     have hB:(fc != 0)=true:=by simp[hfc]
     by_cases aFS:b_ x=0
     ·rw[aFS]
      clear hom aJQ aJP aJO;(go_wp2_with fail);go_ret;exact⟨rfl,fL.o⟩
     ·have hB0:(b_ x != 0)=true:=by simp[aFS]
      clear hom aJQ aJP aJO;(go_wp2_with fail);go_ret;exact⟨rfl,fL.o⟩
    have aFS:b_ x=0:=by
     by_cases h:b_ x=0
     ·exact h
     ·exact absurd hfc (aJO h)
    subst hfc;have HOM:=lH (hom rfl);obtain rfl:=aJQ rfl;obtain⟨QT,uL⟩:=aJP rfl;obtain⟨mI,hol,hov⟩:=wS QT;have hgr:ZB x (og.map gC):=by
     rw[<-hog,KW.o aFS];exact aJ1 (by rw[<-tG (F:=F3) (ss:=ss),hog];exact hol)
    obtain⟨HGR,HFV,z7⟩:=d_ hgr (aBV uL) mI;have aZU:=lH (aNf h8 H10.o (by have:=mA.o;omega) aTO.o mI);have H_:nm=k:=by rw[<-HOM.o.rd2.1.1,jO];exact mA.o
    subst H_;rw[aFS];generalize og.map gC=al at *;clear hom aJQ aJP aJO QT uL hol hov hgr mI hog HG sL HGZ KW aTO H10;(go_wp2_with fail);refine(aGZ bs ⟨#[48]⟩ DL.o (by decide+kernel) w6 HT.o).mono ?_;rintro e w7 ⟨rfl,iA⟩;have j_:=bW fL iA;have KK:=bW LA iA;have HO7:=lH (HOM.o.keep iA);clear iA fL LA HOM;by_cases hz:GK bs ⟨#[48]⟩=0
    case pos=>
     rw[hz];(go_wp2_with fail);go_ret;exact⟨rfl,j_.o⟩
    obtain⟨K9,AZ⟩:=aKk hz;have FB:=lH K9;have dA:=lH AZ;have hzb:(GK bs ⟨#[48]⟩ == 0)=false:=by simp[hz]
    generalize GK bs ⟨#[48]⟩=zc at *;clear hz K9 AZ;obtain⟨bC,bH⟩:=aLd kk (nm:Int) (by omega);obtain⟨j1,XP⟩:∃j1,kk.tmod (nm:Int)=j1:=⟨_,rfl⟩;rw[XP] at bC bH;have hw1:IntKind.i64.wrap (j1+(nm:Int))=j1+(nm:Int):=wJ (by omega) (by omega);obtain⟨j,hj⟩:∃j:Nat,(j1+(nm:Int)).tmod (nm:Int)=(j:Int):=⟨((j1+(nm:Int)).tmod (nm:Int)).toNat,(Int.toNat_of_nonneg (Int.tmod_nonneg _ (by omega))).symm⟩;have hjk:j<nm:=by have:=(aLd (j1+(nm:Int)) (nm:Int) (by omega)).2;omega
    have hkz:¬(nm:Int)=0:=by omega
    have aXa:IntKind.i64.wrap j1=j1:=wJ (by omega) (by omega);have hwj:IntKind.i64.wrap (j:Int)=(j:Int):=wJ (by omega) (by omega);(go_upto_region 18 with fail);clear bC bH XP hj hw1 aXa hwj hkz hzb;obtain⟨m0,M9⟩:∃m0,ms[j]?=some m0:=eA (by have:=mA.o;omega);have hex:(ms.map (tJ x al))[j]?=some (tJ x al m0):=by rw[iY,M9];rfl
    have KP:=lH M9;have HEX:=lH hex;obtain⟨gm,hA,yJ,zV,c0,c1,c2,c3,cf,-⟩:=HO7.o.at_ hex;subst hA;have Y2:=lH yJ;have GN:Hid (∀W2,Below w7.heap.size w7 W2->W2.cell? ⟨gm,j*4+2,none⟩=some (.string (bN (mU x al m0)))/\(∀o,W2.frozen? ⟨gm,o,none⟩=false)/\gm<W2.heap.size/\∀s',eN (W2.setCell ⟨gm,j*4+2,none⟩ (.string s')) wr.heap.size (.slice (some ⟨gm,0,none⟩) nm cm) ((ms.map (tJ x al)).set j { tJ x al m0 with txt:=s' })):=lH fun W2 hb=>by
     obtain⟨g',e,-,a1,-,-,a2,-,a3,a4⟩:=(HO7.o.keep hb).at_ hex;injection e with e;injection e with e1;subst e1;exact⟨a2,a3,a1,fun s'=>a4 2 (.string s') _ (by decide) rfl⟩
    have Q6:=lH (HFV.o m0 (bV M9));replace c2:w7.cell? ⟨gm,j*4+2,none⟩=some (.string (bN (mU x al m0))):=c2;have XO:(j:Int)<(nm:Int):=by omega
    have GE:=lZ j;have rE:=jF j;have HJK:=lH hjk;clear M9 hex yJ c0 c1 c3;(go_wp2_with fail);clear c2;refine(aEH (bN (mU x al m0)) bs (qH Q6.o) DL.o w7 (HT0.o.up KK.o)).mono ?_;rintro e v1 ⟨rfl,bC⟩;have lT:Hid (Below w7.heap.size w7 v1):=lH bC;clear bC zV cf;obtain⟨d0,df,dl,dput⟩:=GN.o v1 lT.o;have HPD:=lH (dput (MQ (fun p q=>p+q) (bN (mU x al m0)) bs));have hO:Hid (Below wr.heap.size wr (v1.setCell ⟨gm,j*4+2,none⟩ (.string (MQ (fun p q=>p+q) (bN (mU x al m0)) bs)))):=lH ((KK.o.tm lT.o).setCell Y2.o _);obtain⟨sv,O5⟩:∃sv,MQ (fun p q=>p+q) (bN (mU x al m0)) bs=sv:=⟨_,rfl⟩;rw[O5] at HPD hO ⊢;have HSV:=lH O5;clear dput GN O5 XO GE rE j_ KK HO7 lT;(go_upto_region 19 with fail);clear d0 df dl;generalize QQ:v1.setCell ⟨gm,j*4+2,none⟩ (.string sv)=w8 at *;clear QQ;obtain⟨one,zA⟩:∃one,one=(ms.map (tJ x al)).set j { tJ x al m0 with txt:=sv }:=⟨_,rfl⟩;have a0m:=lH zA;rw[<-zA] at HPD;have wB:=lH HPD.o.rd2.1;have HZO:Hid (∀m∈one,m.txt.size<=maxLen):=lH fun m hm=>by
     rw[zA] at hm;rcases List.mem_or_eq_of_mem_set hm with h | h
     ·exact aJ8 HFV.o m h
     ·rw[h]
      show sv.size<=maxLen;have:=aE0 (fun p q=>p+q) (bN (mU x al m0)) bs;rw[HSV.o] at this;exact cO this (by decide)
    have YW:Hid (one.length=ms.length):=lH (by rw[zA,lS,jO]);have dR:=lH (HBr.o.tm hO.o);replace P0:=lH (P00.o.bl hO.o);replace HX:=lH (HX0.o.up hO.o);replace HT:=lH (HT0.o.up hO.o);clear zA HPD hO P00 HX0 HT0 Y2;have PNX:=P0.o;obtain⟨y0,y1,y2,y3,y4,y5,nf,nlt⟩:=aW PNX;dsimp only at y0 y1 y2 y3 y4 y5;clear PNX;(go_wp2_with fail);clear y0 y1 y2 y3 y4 y5 nf nlt;refine(ME _ x h8 (some ⟨gm,0,none⟩) nm cm one w8 HX.o wB.o HZO.o (by omega) HT.o).mono ?_;rintro e w9 ⟨gA,hg9⟩;have eV:=bW dR gA;replace P0:=lH (P0.o.bl gA);replace wB:=lH (wB.o.bm gA);replace HX:=lH (HX.o.up gA);replace HT:=lH (HT.o.up gA);clear gA;obtain⟨A4,n4,c4,d4,rr,he4,aR9,hc4,hn4,hq4⟩:∃(A4:OA)(n4 c4:Nat)(d4:Int)(rr:List ByteArray),e=.returned (.tuple #[.slice A4 n4 c4,.int .i64 d4])/\aY w9 w9.heap.size A4 n4 rr/\(d4=0->rK x one 0/\rr=(aQ x one (bE x one)).map bN/\∀q∈aQ x one (bE x one),bP q)/\(d4≠0->n4=0)/\n4<=9223372036854775807:=by
     rcases hg9 with⟨d,hd,h1,rfl⟩ | ⟨h1,h2,h3⟩
     ·exact⟨none,0,0,d,[],rfl,⟨rfl,rfl,fun h=>absurd h (by decide)⟩,fun h=>absurd h hd,fun _=>rfl,by decide⟩
     ·by_cases hf:∀q∈aQ x one (bE x one),bP q
      ·obtain⟨A3,n3,c3,rfl,h4,h5,h6⟩:=h2 hf
       exact⟨A3,n3,c3,0,_,rfl,h4,fun _=>⟨h1,rfl,hf⟩,fun h=>absurd rfl h,by unfold maxLen at h6;omega⟩
      ·obtain rfl:=h3 hf
       exact⟨none,0,0,2,[],rfl,⟨rfl,rfl,fun h=>absurd h (by decide)⟩,fun h=>absurd h (by decide),fun _=>rfl,by decide⟩
    subst he4;obtain⟨HR,HC4,mK⟩:=d_ aR9 hc4 hn4;clear hg9 aR9 hc4 hn4;have PNX:=P0.o;obtain⟨y0,y1,y2,y3,y4,y5,nf,nlt⟩:=aW PNX;dsimp only at y0 y1 y2 y3 y4 y5;clear PNX;(go_wp2_with fail);clear y0 y1 y2 y3 y4 y5 nf nlt;refine(RN _ x h8 (some ⟨gm,0,none⟩) nm cm one w9 HX.o wB.o HZO.o (by omega) HT.o).mono ?_;rintro e w10 ⟨mW,aJN⟩;have L7:=bW eV mW;replace P0:=lH (P0.o.bl mW);replace wB:=lH (wB.o.bm mW);replace HX:=lH (HX.o.up mW);replace HT:=lH (HT.o.up mW);replace HR:=lH (HR.o.bm mW);clear mW;obtain⟨A5,n5,c5,d5,ts,he5,aR8,hc5,O8,hq5⟩:∃(A5:OA)(n5 c5:Nat)(d5:Int)(ts:List ByteArray),e=.returned (.tuple #[.slice A5 n5 c5,.int .i64 d5])/\aY w10 w10.heap.size A5 n5 ts/\(d5=0->ts=(cR x one).map bN/\∀q∈cR x one,bP q)/\(d5≠0->n5=0)/\n5<=9223372036854775807:=by
     rcases aJN with⟨d,hd,h1,rfl⟩ | ⟨h1,h2,h3⟩
     ·exact⟨none,0,0,d,[],rfl,⟨rfl,rfl,fun h=>absurd h (by decide)⟩,fun h=>absurd h hd,fun _=>rfl,by decide⟩
     ·by_cases hf:∀q∈cR x one,bP q
      ·obtain⟨A3,n3,c3,rfl,h4,h5,h6⟩:=h2 hf
       exact⟨A3,n3,c3,0,_,rfl,h4,fun _=>⟨rfl,hf⟩,fun h=>absurd rfl h,by unfold maxLen at h6;omega⟩
      ·obtain rfl:=h3 hf
       exact⟨none,0,0,2,[],rfl,⟨rfl,rfl,fun h=>absurd h (by decide)⟩,fun h=>absurd h (by decide),fun _=>rfl,by decide⟩
    subst he5;obtain⟨QA,HC5,DB⟩:=d_ aR8 hc5 O8;clear aJN aR8 hc5 O8;have PNX:=P0.o;obtain⟨y0,y1,y2,y3,y4,y5,nf,nlt⟩:=aW PNX;dsimp only at y0 y1 y2 y3 y4 y5;clear PNX;(go_wp2_with fail);clear y0 y1 y2 y3 y4 y5 nf nlt;refine(IR _ x h8 (some ⟨gm,0,none⟩) nm cm one w10 HX.o wB.o HZO.o (by omega) HT.o).mono ?_;rintro e w11 ⟨mJ,aJM⟩;have q_:=bW L7 mJ;replace P0:=lH (P0.o.bl mJ);replace wB:=lH (wB.o.bm mJ);replace HX:=lH (HX.o.up mJ);replace HT:=lH (HT.o.up mJ);replace HR:=lH (HR.o.bm mJ);replace QA:=lH (QA.o.bm mJ);clear mJ;obtain⟨z6,d6,he6,hc6⟩:∃z6 d6:Int,e=.returned (.tuple #[.int .i64 z6,.int .i64 d6])/\(rK x one 0->∃b:Int,gH (aQ x one (bE x one)) (cR x one) one.length b/\((b<0/\z6=0/\d6=8)\/(0<=b/\z6=b/\d6=0))):=by
     rcases aJM with⟨d,hd,h1,rfl⟩ | ⟨h1,b,hb,⟨h2,rfl⟩ | ⟨h2,rfl⟩⟩
     ·exact⟨0,d,rfl,fun h=>absurd (h1.one h) hd⟩
     ·exact⟨0,8,rfl,fun _=>⟨b,hb,.inl ⟨h2,rfl,rfl⟩⟩⟩
     ·exact⟨b,0,rfl,fun _=>⟨b,hb,.inr ⟨h2,rfl,rfl⟩⟩⟩
    subst he6;have HC6:=lH hc6;clear aJM hc6;by_cases hd4:d4=0
    case neg=>
     have h4:=mK.o hd4;subst h4;have hB:(d4 != 0)=true:=by simp[hd4]
     by_cases XR:d5=0
     ·have hB2:(d4 != d5)=true:=by simp[XR,hd4]
      by_cases O8:n5=0
      ·subst O8
       (go_wp2_with fail);go_ret;exact⟨rfl,q_.o⟩
      ·have a5z:((n5:Int) == 0)=false:=by simp;omega
       (go_wp2_with fail);go_ret;exact⟨rfl,q_.o⟩
     ·have h5:=DB.o XR
      subst h5;(go_wp2_with fail);go_ret;exact⟨rfl,q_.o⟩
    subst hd4;by_cases XR:d5=0
    case neg=>
     have h5:=DB.o XR;subst h5;have hB:(d5 != 0)=true:=by simp[XR]
     have hB2:((0:Int) != d5)=true:=by simp;omega
     by_cases hn4:n4=0
     ·subst hn4
      (go_wp2_with fail);go_ret;exact⟨rfl,q_.o⟩
     ·have a5A:((n4:Int) == 0)=false:=by simp;omega
      (go_wp2_with fail);go_ret;exact⟨rfl,q_.o⟩
    subst XR;obtain⟨hE0,hrr,hrf⟩:=HC4.o rfl;obtain⟨aS8,gY,-⟩:=hE0.zero rfl;obtain⟨htt,htf⟩:=HC5.o rfl;obtain⟨b,EM,iO⟩:=HC6.o hE0;have hmo:=OV h8 aS8;have hjo:j<one.length:=by rw[YW.o,mA.o];exact HJK.o
    obtain⟨aLB,hv⟩:=aJd KP.o a0m.o HSV.o Q6.o FB.o HFV.o hmo.tx;have hbt:Tn 25 (gC bs):=ZJ FB.o aDj.o;have how:=aRt hmo gY HGR.o hjo hv;have HSQ:Hid (∀i,i<ms.length->bP (vf (aQ x one (bE x one)) i*vf (aQ x one (bE x one)) i)):=lH fun i hi=>aE1 aZU.o aLB hmo gY HGR.o hbt hv hi;have hn4:n4=nm:=by rw[<-HR.o.1,hrr,jO,qK,YW.o];exact mA.o
    have O8:n5=nm:=by rw[<-QA.o.1,htt,jO,jH,YW.o];exact mA.o
    subst hn4;subst O8;have HRV:Hid (∀i,i<n5->rr[i]?=some (bN (vf (aQ x one (bE x one)) i))/\bP (vf (aQ x one (bE x one)) i)):=lH fun i hi=>by
     have g:=a_ (l:=aQ x one (bE x one)) (i:=i) (by rw[qK,YW.o,mA.o];exact hi);exact⟨by rw[hrr,iY,g];rfl,hrf _ (bV g)⟩
    have HTV:Hid (∀i,i<n5->ts[i]?=some (bN (vf (cR x one) i))/\bP (vf (cR x one) i)):=lH fun i hi=>by
     have g:=a_ (l:=cR x one) (i:=i) (by rw[jH,YW.o,mA.o];exact hi);exact⟨by rw[htt,iY,g];rfl,htf _ (bV g)⟩
    obtain⟨rb,ro,hA,AX⟩:=HR.o.form (by omega);subst hA;obtain⟨sb,so,hA,GA⟩:=QA.o.form (by omega);subst hA;have HCE:Hid (∀W2,Below w11.heap.size w11 W2->∀i,i<n5->W2.cell? ⟨rb,ro+i,none⟩=some (.string (bN (vf (aQ x one (bE x one)) i)))/\W2.cell? ⟨sb,so+i,none⟩=some (.string (bN (vf (cR x one) i)))/\rb<W2.heap.size/\sb<W2.heap.size):=lH fun W2 hb i hi=>⟨(HR.o.below hb lR).at_ (HRV.o i hi).1,(QA.o.below hb lR).at_ (HTV.o i hi).1,jE AX hb.size,jE GA hb.size⟩;have XO:(j:Int)<(n5:Int):=by have:=HJK.o;omega
    have GE:=lZ j;have rE:=jF j;have oP:j<n5:=HJK.o;clear hE0 hrr hrf aS8 htt htf aLB hv hbt AX GA HC4 HC5 HC6 mK DB HR QA KP HEX HSV;by_cases SW:vf (cR x one) j=0
    ·have hcb:=how.none hmo gY hjo SW EM
     obtain⟨a1,a2,a3,a4⟩:=HCE.o w11 bR j oP;rw[SW,J3.1] at a2;rcases iO with⟨-,e1,e2⟩ | ⟨e1,-,-⟩
     case inr=>omega
     subst e1;subst e2;clear EM how hmo gY hjo a1 SW;(go_wp2_with fail);go_ret;exact⟨rfl,q_.o⟩
    ·obtain⟨t,hbt,htk,LM,M7,FT⟩:=how.best hmo gY hjo dA.o SW EM
     have hrj:=how.res_ne hmo hjo dA.o SW;rcases iO with⟨e1,-,-⟩ | ⟨-,e1,e2⟩
     case inl=>omega
     subst e1;subst e2;subst hbt;have htn:t<n5:=by rw[YW.o,mA.o] at LM;exact LM
     obtain⟨a1,a2,a3,a4⟩:=HCE.o w11 bR j oP;obtain⟨b1,b2,-,-⟩:=HCE.o w11 bR t htn;have q1:((bN (vf (cR x one) j)).toList == [48])=false:=by rw[l48];exact t8.2 fun e=>SW (OB (HTV.o j oP).2 (AL (by decide+kernel)) (e.trans J3.1.symm))
     have q2:((bN (vf (cR x one) t)).toList == [48])=false:=by rw[l48];exact t8.2 fun e=>M7 (OB (HTV.o t htn).2 (AL (by decide+kernel)) (e.trans J3.1.symm))
     have q3:((bN (vf (aQ x one (bE x one)) j)).toList == [48])=false:=by rw[l48];exact t8.2 fun e=>hrj (OB (HRV.o j oP).2 (AL (by decide+kernel)) (e.trans J3.1.symm))
     have htI:(t:Int)<(n5:Int):=by omega
     have FO:=lZ t;have aXh:=jF t;have htj:(t:Int)<=(j:Int):=by omega
     have HEQ:=lH FT;have HFT:=lH (HRV.o t htn).2;have HFJ:=lH (HRV.o j oP).2;have gQ:=lH (HTV.o t htn).2;have HSJ:=lH (HTV.o j oP).2;have HQT:=lH (HSQ.o t (by rw[mA.o];exact htn));have HQJ:=lH (HSQ.o j (by rw[mA.o];exact oP));clear EM how hmo gY hjo SW M7 FT hrj LM;generalize vf (aQ x one (bE x one)) j=rj at *;generalize vf (cR x one) j=sj at *;(go_upto_region 26 with fail);refine kX 52 (fun hHeld=>?_);simp only[nI,List.take_zero];refine cW [0,1,2,3,4,5,6,7,8,9,10,11,12,13,14,15,16,17,18,19,20,21,22,23,24,25,26,27,28,29,31,32,33,34,36,37,38,39,40,41] ?_;refine cW [42,43,45,46,47,48] ?_;clear a1 a2 a3 a4 b1 b2 q1 q2 q3 XO GE rE htI FO aXh htj;have zL:=lH (aK (Below.refl w11.heap.size w11));generalize w11.drew=v0 at *;refine bQ 30 (fun K hK=>?_);go_simp;refine(xT (bN (vf (aQ x one (bE x one)) t)) (bN (vf (aQ x one (bE x one)) t)) (qH HFT.o) (qH HFT.o) v0 (HT.o.up zL.o)).mono ?_;rintro e v1 ⟨rfl,bC⟩;rw[show MQ (fun p q=>p*q) (bN (vf (aQ x one (bE x one)) t)) (bN (vf (aQ x one (bE x one)) t))=bN (vf (aQ x one (bE x one)) t*vf (aQ x one (bE x one)) t) from aDZ (f:=fun p q=>p*q) HFT.o HFT.o HQT.o];have lT:Hid (Below w11.heap.size w11 v1):=lH (zL.o.tm bC);clear bC zL;go_simp;refine gZ hK lT.o (fun hHeld=>?_);clear hK K;refine bQ 35 (fun K hK=>?_);go_simp;refine(xT (bN (vf (aQ x one (bE x one)) t*vf (aQ x one (bE x one)) t)) (bN sj) (qH HQT.o) (qH HSJ.o) v1 (HT.o.up lT.o)).mono ?_;rintro e v2 ⟨rfl,bH⟩;rw[show MQ (fun p q=>p*q) (bN (vf (aQ x one (bE x one)) t*vf (aQ x one (bE x one)) t)) (bN sj)=rnS (rj*rj*vf (cR x one) t) from by
      rw[OS (cV HQT.o).1 (cV HSJ.o).1,(cV HQT.o).2,(cV HSJ.o).2,HEQ.o]]
     have sJ:Hid (Below w11.heap.size w11 v2):=lH (lT.o.tm bH);clear bH lT;go_simp;refine gZ hK sJ.o (fun hHeld=>?_);clear hK K;refine bQ 44 (fun K hK=>?_);go_simp;refine(xT (bN rj) (bN rj) (qH HFJ.o) (qH HFJ.o) v2 (HT.o.up sJ.o)).mono ?_;rintro e v3 ⟨rfl,cN⟩;rw[show MQ (fun p q=>p*q) (bN rj) (bN rj)=bN (rj*rj) from aDZ (f:=fun p q=>p*q) HFJ.o HFJ.o HQJ.o];have vM:Hid (Below w11.heap.size w11 v3):=lH (sJ.o.tm cN);clear cN sJ;go_simp;refine gZ hK vM.o (fun hHeld=>?_);clear hK K;refine bQ 49 (fun K hK=>?_);go_simp;refine(xT (bN (rj*rj)) (bN (vf (cR x one) t)) (qH HQJ.o) (qH gQ.o) v3 (HT.o.up vM.o)).mono ?_;rintro e v4 ⟨rfl,eR⟩;rw[show MQ (fun p q=>p*q) (bN (rj*rj)) (bN (vf (cR x one) t))=rnS (rj*rj*vf (cR x one) t) from by
      rw[OS (cV HQJ.o).1 (cV gQ.o).1,(cV HQJ.o).2,(cV gQ.o).2]]
     have UD:Hid (Below w11.heap.size w11 v4):=lH (vM.o.tm eR);clear eR vM;go_simp;refine gZ hK UD.o (fun hHeld=>?_);clear hK K;refine cW [50,51] ?_;refine eM ?_;clear hHeld;(go_wp2_with fail);go_ret;exact⟨rfl,q_.o.tm UD.o⟩
end

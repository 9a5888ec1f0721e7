import Derived.Test.YthgdchffeigkbaaGreatDoorX35
import Derived.Test.YthgdchffeigkbaaGreatDoorX36
set_option linter.unusedVariables false
set_option linter.unusedSimpArgs false
namespace Go.Proofs.YthgdchffeigkbaaGreatDoor
set_option maxHeartbeats 8000000
set_option maxRecDepth 100000
section
open Go.ChangeShapes Go.WideShapes Go.ChangeAt Go.RowKit
def aS1 (_:Value):Prop:=True
theorem aIR {w:Wo} {base e size n:Nat} {v:Value} {xs:List Value} (h:w.ownsRow base e size v n xs):bJ aS1 w base e size v n xs:=by
 refine ⟨h.1,?_⟩;rcases h.2 with h1 | ⟨g,cap,cur,h1,h2,h3,h4,h5,h6,h7⟩
 ·exact .inl h1
 ·exact .inr ⟨g,cap,cur,h1,h2,h3,h4,h5,h6,h7,fun _ _=>trivial⟩
section
variable {S:Value->Prop} {w:Wo} {base T size n k:Nat} {v:Value} {xs:List Value}
theorem bJ.strike (h:bJ S w base T size v n xs) (hk:k<n):∃ g cap cur,v=.slice (some ⟨g,0,none⟩) n cap/\base<=g/\aG w g T cur/\cur.size=cap*size/\n<=cap/\cap<=maxLen/\cur.toList.take (n*size)=xs/\
    ∀ (zc:List Value) (e:Ending) (w':Wo),aNL g T size n cap k cur zc w e w'->(∀ u∈zc,S u)->e=.returned (.slice (some ⟨g,0,none⟩) (n-1) cap)/\bJ S w' base T size (.slice (some ⟨g,0,none⟩) (n-1) cap) (n-1) (xs.take (k*size)++xs.drop ((k+1)*size))/\(∀ b,b<w.heap.size->b≠g->w'.heap[b]?=w.heap[b]?)/\Below base w w':=by
 rcases h.2 with ⟨-,h2⟩ | ⟨g,cap,cur,h1,h2,h3,h4,h5,h6,h7,h8⟩
 ·omega
 ·refine ⟨g,cap,cur,h1,h2,h3,h6,h4,h5,h7,fun zc e w' hd hz=>?_⟩
  obtain ⟨d1,cur',d2,d3,d4,d5,d6,d7⟩:=hd;have a2:(k+1)*size<=n*size:=Nat.mul_le_mul_right _ (by omega);have a4:(k+1)*size=k*size+size:=by rw [Nat.add_mul,Nat.one_mul]
  have a5:(n-1)*size+size=n*size:=by rw [<-Nat.succ_mul];congr 1;omega
  have hx:=h.1;have e1:cur.toList.take (k*size)=xs.take (k*size):=by
   rw [<-h7,List.take_take,Nat.min_eq_left (by omega)]
  refine ⟨d1,⟨?_,.inr ⟨g,cap,cur',rfl,h2,d2,by omega,h5,by rw [d3,h6],by rw [d4,e1,h7],fun u hu=>?_⟩⟩,d6,d7.mono h2⟩
  ·rw [iC,jP,EI,hx]
   omega
  ·rcases d5 u hu with h | h
   ·exact h8 u h
   ·exact hz u h
end
theorem QZ {α:Type} (l:List α) (k:Nat):l.eraseIdx k=l.take k++l.drop (k+1):=List.eraseIdx_eq_take_drop_succ l k
theorem YD {α:Type} {f:α->List Value} {sz:Nat} (hl:∀ a,(f a).length=sz):∀ (l:List α) (k:Nat),(l.flatMap f).take (k*sz)=(l.take k).flatMap f
 | [],k=>by simp
 | a::l,0=>by simp
 | a::l,k+1=>by
  rw [List.flatMap_cons,lA,List.flatMap_cons,<-YD hl l k,Nat.add_mul,Nat.one_mul,Nat.add_comm,<-hl a,List.take_length_add_append]
theorem YE {α:Type} {f:α->List Value} {sz:Nat} (hl:∀ a,(f a).length=sz):∀ (l:List α) (k:Nat),(l.flatMap f).drop (k*sz)=(l.drop k).flatMap f
 | [],k=>by simp
 | a::l,0=>by simp
 | a::l,k+1=>by
  rw [List.flatMap_cons,List.drop_succ_cons,<-YE hl l k,Nat.add_mul,Nat.one_mul,Nat.add_comm,<-hl a,List.drop_length_add_append]
theorem aDA (l:List Mi) (k:Nat):(l.flatMap Mi.cells).take (k*4)++(l.flatMap Mi.cells).drop ((k+1)*4)=(l.eraseIdx k).flatMap Mi.cells:=by
 rw [YD Mi.len,YE Mi.len,QZ,List.flatMap_append]
theorem UA (l:List Nat) (k:Nat):(eW l).take (k*1)++(eW l).drop ((k+1)*1)=eW (l.eraseIdx k):=by
 unfold eW;rw [QZ,List.map_append,List.map_take,List.map_drop,Nat.mul_one,Nat.mul_one]
theorem aDt (l:List Nat):∀ u∈eW l,u.oneCell'=true:=fun u hu=>by
 unfold eW at hu;obtain ⟨x,-,rfl⟩:=List.mem_map.1 hu;rfl
theorem aLz (l:List Mi):∀ u∈l.flatMap Mi.cells,u.oneCell'=true:=fun u hu=>by
 obtain ⟨m,-,h⟩:=List.mem_flatMap.1 hu;simp [Mi.cells] at h;rcases h with rfl | rfl | rfl | rfl<;>rfl
theorem aDu {l:List Nat} {k i:Nat} (h:l[k]?=some i):(eW l)[k]?=some (.int .i64 (i:Int)):=by
 unfold eW;rw [kI,h];rfl
theorem aDg {w:Wo} {base:Nat} {v:Value} {l:List Nat} (h:bJ rD w base 3 1 v l.length (eW l)):∃ A c,v=.slice A l.length c/\nL w w.heap.size A l.length (dZ l)/\l.length<=c/\c<=maxLen:=by
 obtain ⟨A,c,h1,h2,h3,h4,-⟩:=sL h.own;refine ⟨A,c,h1,?_,h3,h4⟩;have e:eW l=ints (dZ l):=by unfold eW dZ ints;rw [List.map_map];rfl
 unfold nL;rw [<-e];exact h2
theorem CX {ops:Array Oper} {rest:List Oper} {o:Oper} {a:Act} {Q:Exit->Act->World->Prop} {w:Wo} {T:TypeId} (CE:o.guard=none) (s x:Operand) (t:TypeId)
    (ho:o.op=.call { callee:=.builtin .append,args:=#[s,x],argTypes:=#[t,t] }) (base:Nat)
    (ht:Tryz.prog.underlying t=some (.slice 3)) (v:Value) (l:List Nat) (k:Nat) (hs:a.eval s=v) (bF:bJ rD w base 3 1 v l.length (eW l))
    (hx:a.eval x=.slice (some ⟨w.heap.size,0,none⟩) 1 1) (wX:l.length<=1000000) (c_:base<=w.heap.size)
    (h:∀ v' w',bJ rD w' base 3 1 v' (l++[k]).length (eW (l++[k]))->Below base w w'->(v'.ownBlock=v.ownBlock\/∃ b,v'.ownBlock=some b/\w.heap.size<=b)->(∀ b,b<w.heap.size->v.ownBlock≠some b->w'.heap[b]?=w.heap[b]?)->(∀ b t cs,aG w b t cs->t≠3->aG w' b t cs)->w.heap.size<=w'.heap.size->wpList Tryz.prog ops Q rest (a.put o.dst v') w') :
    wpList Tryz.prog ops Q (o::rest) a (w.alloc (.cells #[.int .i64 (k:Int)] T)):=by
 obtain ⟨i0,kC,oE,kK,lQ⟩:=info_parts GK;have E1:Below w.heap.size w (w.alloc (.cells #[.int .i64 (k:Int)] T)):=bA;refine wpList_plain CE fun K hK=>?_;refine sG (S:=rD) s x t ho base 3 i0 _ 1 8 ht kC oE kK lQ rfl (by omega) Y_ v l.length (eW l) hs (bF.keep E1) w.heap.size T #[.int .i64 (k:Int)] hx (aG.new w T _) rfl ?k1 ?k2 ?k3 ?k4 ?k5
 case k1=>simp [Value.oneCell',rD]
 case k2=>simp only [maxLen];omega
 case k3=>omega
 case k4=>exact cV c_ E1.size
 case k5=>
  intro v' w' g1 g2 g3 g4;refine hK _ _ (h v' w' ?_ ((E1.mono c_).trans g2.low) ?_ ?_ ?_ (cV E1.size g2.size))
  ·rw [iC,List.length_singleton]
   unfold eW at *;rw [List.map_append];exact g1
  ·rcases g3 with h | h
   ·exact .inl h
   ·exact .inr ⟨_,h,E1.size⟩
  ·intro b hb cP
   rw [g4 b (jO hb E1.size) cP];exact E1.block b hb
  ·intro b t' cs hb cP
   exact g2.blk b t' cs (hb.bl E1) cP
end
section
open Go.ChangeShapes Go.WideShapes Go.ChangeAt Go.RowKit
attribute [local go_sem ↓] aE
attribute [local go_sem] aK aH aM aY
section
variable {S:Value->Prop} {w w':Wo} {base e size n:Nat} {v:Value} {xs:List Value}
theorem bJ.byB (h:bJ S w base e size v n xs) (hk:∀ b cs,v.ownBlock=some b->aG w b e cs->aG w' b e cs):bJ S w' base e size v n xs:=by
 refine ⟨h.1,?_⟩;rcases h.2 with h1 | ⟨g,cap,cur,h1,h2,h3,h4⟩
 ·exact .inl h1
 ·exact .inr ⟨g,cap,cur,h1,h2,hk g cur (by rw [h1];rfl) h3,h4⟩
theorem bJ.put5 {gp:Nat} {a0 a1 a2 a3 a4 v0 v1 v2 v3 v4:Value} (o:bJ S w base e size v n xs) (h:aG w gp 95 #[a0,a1,a2,a3,a4]) (ht:e≠95):bJ S (((((w.setCell ⟨gp,0,none⟩ v0).setCell ⟨gp,1,none⟩ v1).setCell ⟨gp,2,none⟩ v2).setCell ⟨gp,3,none⟩ v3).setCell ⟨gp,4,none⟩ v4) base e size v n xs:=by
 have h1:=h.set_ 0 v0;have h2:=h1.set_ 1 v1;have h3:=h2.set_ 2 v2;have h4:=h3.set_ 3 v3;exact ((((o.far h ht).far h1 ht).far h2 ht).far h3 ht).far h4 ht
end
theorem aOH:∀ u∈([.int .i64 0]:List Value),rD u:=fun u hu=>by rw [List.mem_singleton.1 hu];exact ⟨0,rfl⟩
def slN:Value->Nat
 | .slice _ n _=>n
 | _=>0
def aSY (x:bE) (ms:List Mi) (w:Wo) (e:Ending) (w':Wo):Prop:=Below w.heap.size w w'/\((∃ c:Int,c≠0/\pQ x ms c/\e=.returned (.tuple #[.slice none 0 0,.int .i64 c]))\/
 (pQ x ms 0/\∃ r A c,ClG x (List.range ms.length) ms [] r/\e=.returned (.tuple #[.slice A r.length c,.int .i64 0])/\nL w' w'.heap.size A r.length (dZ r)/\r.length<=c/\c<=maxLen))
structure ClM (x:bE) (g6:Nat) (w0 wr:Wo) (v8 v9 v10:Value) (nums:List Nat) (rest:List Mi) (out:List Nat) (fc:Array Value):Prop where
 fit:sD x rest w0.heap.size wr (.agg fc)
 box:aG wr g6 95 fc
 low:w0.heap.size<=g6
 num:bJ rD wr w0.heap.size 3 1 v9 nums.length (eW nums)
 rst:bJ aS1 wr w0.heap.size 57 4 v8 rest.length (rest.flatMap Mi.cells)
 out:bJ rD wr w0.heap.size 3 1 v10 out.length (eW out)
 ne:∀ b,v9.ownBlock=some b->v10.ownBlock≠some b
 bel:Below w0.heap.size w0 wr
theorem aA0 (h:cE) (x:bE) (h8:x.nodes.length<=8) (A:OA) (n c:Nat) (ms:List Mi) (w:Wo) (r:cS w w.heap.size h x) (hm:eG w w.heap.size A n ms) (hz:∀ m∈ms,m.txt.size<=maxLen) (hn:n<=9223372036854775807) (ht:dA w) :
    Calls Tryz.prog 34 #[.agg h.cells,.slice A n c] w (aSY x ms w):=by
 have K0:Below w.heap.size w (w.alloc (.cells h.cells 29)):=bA;have HK:=lH K0;have P0:=lH (aG.new w 29 h.cells);have HF:=lH (y9 h x h8 A n c ms (w.alloc (.cells h.cells 29)) (r.up K0) (hm.bm K0) hz hn (ht.up K0));have HT:=lH (ht.up K0);have HX:=lH (r.up K0);have dW:Hid (w.heap.size<=(w.alloc (.cells h.cells 29)).heap.size):=lH K0.size;have j_:Hid (ms.length=n):=lH hm.1;have HM:=lH (hm.bm K0);clear K0 hm r ht hz;obtain ⟨D0,r0,s0,D1,r1,s1,D2,r2,s2,D3,r3,s3,D4,r4,s4,D5,r5,s5⟩:=h;obtain ⟨y0,y1,y2,y3,y4,y5,nf,nlt⟩:=a_ P0.o;dsimp only at y0 y1 y2 y3 y4 y5;go_enter Tryz.func34,Tryz.ntmps34
 go_wp2_with fail
 generalize w.alloc (.cells (cE.cells ⟨D0,r0,s0,D1,r1,s1,D2,r2,s2,D3,r3,s3,D4,r4,s4,D5,r5,s5⟩) 29)=W at *;have HKW:=HK;have HWS:Hid (w.heap.size<=W.heap.size):=lH HK.o.size;refine HF.o.mono ?_;rintro e w1 ⟨bH,lT⟩;have bS:=lH (HK.o.trans (bH.mono dW.o));have xD:=lH (HT.o.up bH);have aSG:=lH bH;replace HM:=lH (HM.o.bm bH);clear bH y0 y1 y2 y3 y4 y5 nf nlt HF;rcases lT with ⟨d,hd,sF,rfl⟩ | ⟨sF,fv,rfl,⟨g,m,y,A1,c1,gi,ga,B1,d1,rfl,K_,AB,uP,M3,M1,MZ,K9⟩⟩
 ·have HE:=lH sF
  have HD:=lH hd;have hdb:(d != 0)=true:=by simp [hd]
  clear sF hd
  go_wp2_with fail
  go_ret2;exact ⟨bS.o.alloc bS.o.size _,.inl ⟨d,HD.o,HE.o,rfl⟩⟩
 ·obtain ⟨iX,fN,AA⟩:=sF.zero rfl
  obtain ⟨ok,hl,jS⟩:=iU iX;have HE:=lH sF;have hz:Below w1.heap.size w1 (w1.alloc (.cells #[.pointer (some ⟨g,0,none⟩),.slice A1 ms.length c1,.slice (some ⟨gi,0,none⟩) (aA x).length (aA x).length,.slice (some ⟨ga,0,none⟩) (aI x) (aI x),.slice B1 ms.length d1] 95)):=bA;have K8:=sD.up (B0:=W.heap.size) (x:=x) (ms:=ms) ⟨g,m,y,A1,c1,gi,ga,B1,d1,rfl,K_,AB,uP,M3,M1,MZ,K9⟩ hz;have N1:=lH K8;have HK:=lH (F9 h8 iX);have WF:=lH (HM.o.bm hz);have mA:=lH (aG.new w1 95 #[.pointer (some ⟨g,0,none⟩),.slice A1 ms.length c1,.slice (some ⟨gi,0,none⟩) (aA x).length (aA x).length,.slice (some ⟨ga,0,none⟩) (aI x) (aI x),.slice B1 ms.length d1]);have HBZ:=lH (bS.o.tm hz);have aSF:=lH (aSG.o.tm hz);have aFO:=lH fN;have tT:=lH (xD.o.up hz)
  have HL:Hid (ms.length<=64):=lH hl;clear sF K_ AB uP M3 M1 MZ K9 K8 iX fN AA ok hl jS hz
  go_upto_region 4 with fail
  generalize w1.alloc (.cells #[.pointer (some ⟨g,0,none⟩),.slice A1 ms.length c1,.slice (some ⟨gi,0,none⟩) (aA x).length (aA x).length,.slice (some ⟨ga,0,none⟩) (aI x) (aI x),.slice B1 ms.length d1] 95)=wz at *;generalize hgt:w1.heap.size=gt at *;have HGT:Hid (W.heap.size<=gt):=lH (by rw [<-hgt];exact aSG.o.size);clear hgt;have K3:=j_.o;subst K3;have aUZ:=HL.o
  go_wp2_with fail
  refine (RJ A ms.length c ms wz WF.o (by omega)).mono ?_;rintro e w2 ⟨bL,A8,c8,rfl,ho8⟩;have oY:=lH (bJ.mono (aIR ho8) aSF.o.size);have bW:=lH (aSF.o.tm bL);have HF2:=lH (N1.o.up bL);have aSv:=lH (mA.o.bl bL);clear bL ho8 N1 mA WF
  go_wp2_with fail
  go_loopw [9,26] (fun v9 v26 wr=>∃ k:Nat,k<=ms.length/\v26=.int .i64 k/\bJ rD wr w2.heap.size 3 1 v9 (List.range k).length (eW (List.range k))/\Below w2.heap.size w2 wr) (fun _ v26 _=>ms.length-(intOf v26).toNat)
  case atStart=>exact ⟨0,by omega,rfl,dO _ _ _ _ _,bR⟩
  case round=>
   obtain ⟨k,hk,rfl,ho,hb⟩:=hrel;have HO:=lH ho;have HB:=lH hb;clear ho hb
   by_cases aW:k<ms.length
   ·have fT:(k:Int)<(ms.length:Int):=by omega
    have l_:=lN k;have jW:Hid (ms.length-(k+1)<ms.length-k):=lH (by omega);have HBS:Hid (w2.heap.size<=wr.heap.size):=lH HB.o.size
    go_wp2_with (at_builtin;refine CX rfl (.tmp 29) (.tmp 31) _ rfl w2.heap.size Tryz.underlying30 u9 (List.range k) k rfl HO.o rfl ?k1 HBS.o ?_)
    case k1=>rw [List.length_range];omega
    intro v' w7 bF zY tJ QE b_ gW;have Y3:Hid (bJ rD w7 w2.heap.size 3 1 v' (List.range (k+1)).length (eW (List.range (k+1)))):=lH (by rw [List.range_succ,iC,List.length_singleton,List.length_range];exact bF);have iM:Hid (Below w2.heap.size w2 w7):=lH (HB.o.trans zY);clear bF zY tJ QE b_ gW HO HB
    go_wp2_with fail
    go_roundw
    case rel=>exact ⟨k+1,aW,aQ l_.o,Y3.o,iM.o⟩
    case measure=>exact jW.o
   ·have lS:k=ms.length:=by omega
    subst lS;have fT:¬((ms.length:Nat):Int)<(ms.length:Int):=by omega
    have hM:ClM x gt W wr (.slice A8 ms.length c8) u9 (.slice none 0 0) (List.range ms.length) ms [] #[.pointer (some ⟨g,0,none⟩),.slice A1 ms.length c1,.slice (some ⟨gi,0,none⟩) (aA x).length (aA x).length,.slice (some ⟨ga,0,none⟩) (aI x) (aI x),.slice B1 ms.length d1]:=⟨HF2.o.up HB.o,aSv.o.bl HB.o,HGT.o,bJ.mono HO.o bW.o.size,oY.o.keep HB.o,dO _ _ _ _ _,fun b _ h=>(by cases h),bW.o.tm HB.o⟩;have Y4:=lH hM;have tA:=lH HK.o;clear hM HO HB HF2 aSv oY
    go_wp2_with fail
    go_loopw [8,9,10] (fun v8 v9 v10 wr=>∃ (nums:List Nat) (rest:List Mi) (out:List Nat) (fc:Array Value),ClM x gt W wr v8 v9 v10 nums rest out fc/\nums.length=rest.length/\D7 x rest/\mI x rest/\out.length<=64-rest.length/\∀ r,ClG x nums rest out r->ClG x (List.range ms.length) ms [] r) (fun v8 _ _ _=>slN v8)
    case atStart=>exact ⟨_,_,_,_,Y4.o,List.length_range,tA.o,aFO.o,Nat.zero_le _,fun r h=>h⟩
    case round=>
     clear Y4 tA;obtain ⟨nums,rest,out,fc,hm,eC,QG,fN,hol,aKg⟩:=hrel;obtain ⟨g',m',y',A1',c1',gi',ga',B1',d1',hfe,-⟩:=hm.fit;injection hfe with hfe;subst hfe;obtain ⟨A8,c8,OF,-,-⟩:=hm.rst.shape;obtain ⟨A9,c9,KZ,-,-⟩:=hm.num.shape;obtain ⟨A10,c10,aLK,-,-⟩:=hm.out.shape;subst OF;subst KZ;subst aLK;have EC:=lH hm;have R7:=lH eC;have tA:=lH QG;have HRG:=lH fN;have HOL:=lH hol;have HCT:=lH aKg;clear hm eC QG fN hol aKg;have f0:=EC.o.box.cell 0;have f1:=EC.o.box.cell 1;have f2:=EC.o.box.cell 2;have f3:=EC.o.box.cell 3;have f4:=EC.o.box.cell 4;have fl:=EC.o.box.lt
     go_wp2_with fail
     refine (J5 x rest tA.o _ W.heap.size A8 c8 wr EC.o.fit (gP.rd2 EC.o.rst.own).1).mono ?_;rintro e w3 ⟨cR,b,rfl,SL⟩;have yR:=lH SL;have aNp:=lH (EC.o.num.keep cR);have aRC:=lH (EC.o.rst.keep cR);have aNl:=lH (EC.o.out.keep cR);have aSI:=lH (EC.o.box.below cR fl);have aJo:=lH (EC.o.bel.tm cR);have HNE:=lH EC.o.ne;have aJh:=lH EC.o.low;clear cR SL f0 f1 f2 f3 f4 fl EC
     by_cases hb:b<0
     ·have CG:decide (b<0)=true:=decide_eq_true hb
      have HCG:=lH (HCT.o out (ClG.done yR.o hb))
      go_wp2_with fail
      go_ret2;obtain ⟨Ao,co,hvo,aUw,aUJ,aVD⟩:=aDg aNl.o;injection hvo with mJ kD pV;subst mJ;subst pV;exact ⟨HKW.o.trans (aJo.o.mono HWS.o),.inr ⟨HE.o,out,_,_,HCG.o,rfl,aUw,aUJ,aVD⟩⟩
     ·obtain ⟨k,rfl⟩:∃ k:Nat,b=(k:Int):=⟨b.toNat,by omega⟩
      have CG:decide ((k:Int)<0)=false:=decide_eq_false hb;have hkr:k<rest.length:=by
       rcases yR.o with ⟨h1,-⟩ | ⟨j,h1,h2,-⟩<;>omega
      have Y8:=lH hkr;have HSP:Hid (vf (eQ x rest) k≠0):=lH (by
       rcases yR.o with ⟨h1,-⟩ | ⟨j,h1,h2,h3,-⟩
       ·omega
       ·have e:j=k:=by omega
        rw [<-e];exact h3.2)
      obtain ⟨i,hi⟩:∃ i,nums[k]?=some i:=eO (by have:=R7.o;omega);have HI:=lH hi;obtain ⟨g9,cap9,cur9,KZ,hg9,gE,aEB,aEc,aED,aAs,aD2⟩:=aNp.o.strike (k:=k) (by have:=R7.o;omega);injection KZ with KZ hv9b hv9c;subst KZ;subst hv9c;have hc9:w3.cell? ⟨g9,0+k,none⟩=some (.int .i64 (i:Int)):=by
       rw [gE.cell,Nat.zero_add];have h:=aDu hi;rw [<-aAs,List.getElem?_take] at h
       split at h
       ·rwa [Array.getElem?_toList] at h
       ·cases h
      rw [Nat.zero_add] at hc9;have aVi:=gE.lt;have cQ:=lH gE;have hkN:(k:Int)<(nums.length:Int):=by have:=R7.o;omega
      have kF:=lZ k
      have qW:=kU k;have aUx:=tA.o.k64;have HBS:Hid (W.heap.size<=w3.heap.size):=lH aJo.o.size;have R1:=lH (And.intro hg9 (And.intro aEB (And.intro aEc (And.intro aED (And.intro aAs aD2)))));clear hi hb hg9 aEB aEc aED aAs aD2 gE
      go_wp2_with (at_builtin;refine CX rfl (.tmp 40) (.tmp 45) _ rfl W.heap.size Tryz.underlying30 (.slice A10 out.length c10) out i rfl aNl.o rfl ?k1 HBS.o ?_)
      case k1=>have:=HOL.o;omega
      intro v' w4 bF zY tJ QE b_ gW;have aKF:=lH (aNp.o.apart (v:=.slice A10 out.length c10) QE (fun b hb=>HNE.o b hb));have aKA:Hid (bJ rD w4 W.heap.size 3 1 v' (out++[i]).length (eW (out++[i]))):=lH (by rw [iC,List.length_singleton];exact bF);have aSa:Hid (v'.ownBlock≠some g9):=lH (by
       rcases tJ with h | ⟨b,h,h2⟩
       ·rw [h];exact HNE.o g9 rfl
       ·rw [h]
        intro e;injection e with e;have:=cQ.o.lt;omega)
      have aFM:=lH (aRC.o.byB (w':=w4) fun b cs _ h=>b_ b _ cs h (by decide));have SD:=lH (b_ _ _ _ aSI.o (by decide));have aKW:=lH (aJo.o.trans zY);clear bF zY tJ QE b_ gW hc9 aVi aNp aRC aNl aSI aJo HNE HBS R1 cQ;clear cur9;obtain ⟨g9',cap9,cur9,KZ,hg9,gE,aEB,aEc,aED,aAs,aD2⟩:=aKF.o.strike (k:=k) (by have:=R7.o;omega);injection KZ with KZ hv9b hv9c;injection KZ with KZ;injection KZ with KZ;subst KZ;subst hv9c;obtain ⟨g8,cap8,cur8,OF,hg8,e_,aEC,aEd,aEE,aDY,aH4⟩:=aFM.o.strike (k:=k) Y8.o;injection OF with OF hv8b hv8c;subst OF;subst hv8c;have H98:Hid (g8≠g9):=lH (e_.apart gE (by decide));have H69:Hid (gt≠g9):=lH (SD.o.apart gE (by decide));have H68:Hid (gt≠g8):=lH (SD.o.apart e_ (by decide))
      have HC9:=lH (aFc g9 nums.length c9 k cur9 w4 gE (by rw [aEB]) aEc (by have:=R7.o;omega) aED (by rw [aAs];exact aDt nums));have aRs:=lH aD2;have dF:=lH e_;have HS8:=lH (And.intro aEC (And.intro aEd (And.intro aEE aDY)));clear hg9 gE aEB aEc aED aAs aD2 hg8 e_ aEC aEd aEE aDY aH4;have aL9:(k:Int)+1<=(nums.length:Int):=by omega
      have aU0:(k:Int)<(rest.length:Int):=by omega
      go_wp2_with fail
      refine HC9.o.mono ?_;intro e w5 hd9;obtain ⟨rfl,hn5,ho5,hl5⟩:=aRs.o _ e w5 hd9 aOH;rw [UA] at hn5;have L0:=lH hn5;have aKC:=lH (aKA.o.byB (w':=w5) fun b cs h hb=>(ho5 b hb.lt (fun e=>aSa.o (by rw [h,e]))).trans hb);have aKv:=lH (aFM.o.byB (w':=w5) fun b cs h hb=>(ho5 b hb.lt (fun e=>H98.o (by injection h with h;rw [<-e];exact h))).trans hb);have aGc:=lH (show aG w5 gt 95 _ from (ho5 gt SD.o.lt H69.o).trans SD.o);have aKX:=lH (aKW.o.trans hl5);clear hn5 ho5 hl5 hd9 HC9 aRs aKA aFM SD aKW aKF dF HS8;clear cur8;obtain ⟨g8',cap8,cur8,OF,hg8,e_,aEC,aEd,aEE,aDY,aH4⟩:=aKv.o.strike (k:=k) Y8.o;injection OF with OF hv8b hv8c;injection OF with OF;injection OF with OF;subst OF;subst hv8c;have HC8:=lH (aFb g8 rest.length c8 k cur8 w5 e_ aEC aEd Y8.o aEE (by rw [aDY];exact aLz rest));have aRt:=lH aH4
      have dF:=lH e_;clear hg8 e_ aEC aEd aEE aDY aH4
      go_wp2_with fail
      refine HC8.o.mono ?_;intro e w6 hd8;obtain ⟨rfl,xK,ho6,hl6⟩:=aRt.o _ e w6 hd8 (fun _ _=>trivial);rw [aDA] at xK;have e1:rest.length-1=(rest.eraseIdx k).length:=(List.length_eraseIdx_of_lt Y8.o).symm;have e2:nums.length-1=(nums.eraseIdx k).length:=(List.length_eraseIdx_of_lt (by have:=R7.o;have:=Y8.o;omega)).symm;have V_:=lH (by rw [e1] at xK;exact xK);have DM:=lH ((by have h:=L0.o;rw [e2] at h;exact h:bJ rD w5 W.heap.size 3 1 (.slice (some ⟨g9,0,none⟩) (nums.eraseIdx k).length c9) (nums.eraseIdx k).length (eW (nums.eraseIdx k))).byB (w':=w6) fun b cs _ hb=>(ho6 b hb.lt (hb.apart dF.o (by decide))).trans hb);have aKB:=lH (aKC.o.byB (w':=w6) fun b cs _ hb=>(ho6 b hb.lt (hb.apart dF.o (by decide))).trans hb);have aGb:=lH (show aG w6 gt 95 _ from (ho6 gt aGc.o.lt H68.o).trans aGc.o);have SE:=lH (aKX.o.trans hl6)
      have aRG:=lH (G0 tA.o HRG.o Y8.o HSP.o);have aBl:=lH (tA.o.sub (List.eraseIdx_sublist rest k));have aXQ:Hid (∀ r,ClG x (nums.eraseIdx k) (rest.eraseIdx k) (out++[i]) r->ClG x (List.range ms.length) ms [] r):=lH fun r h=>HCT.o r (ClG.step yR.o HI.o h);have aXh:Hid ((out++[i]).length<=64-(rest.eraseIdx k).length):=lH (by rw [iC,List.length_singleton,<-e1];have:=HOL.o;have:=Y8.o;have:=tA.o.k64;omega);have aXo:Hid ((nums.eraseIdx k).length=(rest.eraseIdx k).length):=lH (by rw [<-e1,<-e2,R7.o]);have HME:Hid ((rest.eraseIdx k).length<rest.length):=lH (by rw [<-e1];have:=Y8.o;omega);rw [e1,e2];clear xK ho6 hl6 hd8 HC8 aRt dF L0 aKC aKv aGc aKX H98 H69 H68 Y8 HSP yR HI HCT HOL R7 e1 e2 aUx hkr aU0 aL9 hkN kF qW HRG tA;generalize hrs:rest.eraseIdx k=rest' at *;generalize hns:nums.eraseIdx k=nums' at *;generalize hos:out++[i]=out' at *
      have PNX:=P0.o.bl SE.o;obtain ⟨y0,y1,y2,y3,y4,y5,nf,nlt⟩:=a_ PNX;dsimp only at y0 y1 y2 y3 y4 y5;clear PNX
      go_wp2_with fail
      refine (M_ _ x aBl.o.ok h8 (some ⟨g8,0,none⟩) _ c8 rest' w6 (HX.o.up SE.o) (gP.rd2 V_.o.own).1 aBl.o.k64 aBl.o.mi aBl.o.tx aBl.o.wt).mono ?_;rintro e w7 ⟨gY,lT⟩;rcases lT with ⟨h,-⟩ | ⟨-,fv,rfl,K8⟩
      ·exact absurd aRG.o h
      have aQf:=K8;obtain ⟨g2,m2,yy2,A2,c2,gi2,ga2,B2,d2,hfe,-⟩:=K8;subst hfe;have aXH:=lH aQf;have P6:=lH (aGb.o.bl gY);have I9:Hid (gt<w6.heap.size):=lH aGb.o.lt;have HN7:=lH (DM.o.keep gY);have NV:=lH (V_.o.keep gY);have Y3:=lH (aKB.o.keep gY);have iM:=lH (SE.o.tm gY);have aXU:Hid (W.heap.size<=w6.heap.size):=lH SE.o.size;clear aQf gY y0 y1 y2 y3 y4 y5 nf nlt aGb DM V_ aKB SE;have z0:=P6.o.cell 0;have z1:=P6.o.cell 1;have z2:=P6.o.cell 2;have z3:=P6.o.cell 3;have z4:=P6.o.cell 4;have zl:=P6.o.lt;have zf:=P6.o.frozen;have HU:=lH (EJ (p':=some ⟨g2,0,none⟩) (B1:=A2) (k1:=rest'.length) (d1:=c2) (B2:=some ⟨gi2,0,none⟩) (k2:=(aA x).length) (d2:=(aA x).length) (B3:=some ⟨ga2,0,none⟩) (k3:=aI x) (d3:=aI x) (B4:=B2) (k4:=rest'.length) (d4:=d2) P6.o)
      go_wp2_with fail
      go_roundw
      case rel=>exact ⟨nums',rest',out',_,⟨(aXH.o.unP HU.o I9.o).low aXU.o,qM P6.o,aJh.o,HN7.o.put5 P6.o (by decide),NV.o.put5 P6.o (by decide),Y3.o.put5 P6.o (by decide),fun b hb=>by injection hb with hb;rw [<-hb];exact aSa.o,k_ iM.o aJh.o⟩,aXo.o,aBl.o,aRG.o,aXh.o,aXQ.o⟩
      case measure=>exact HME.o
end
section
def wO:List Mi:=[⟨0,⟨#[76]⟩,⟨#[53]⟩,1⟩,⟨0,⟨#[76]⟩,⟨#[53]⟩,1⟩,⟨0,⟨#[76]⟩,⟨#[57]⟩,1⟩,⟨0,⟨#[77]⟩,⟨#[50]⟩,1⟩]
def suK:List Mi:=[⟨0,⟨#[76]⟩,⟨#[53]⟩,1⟩,⟨0,⟨#[76]⟩,⟨#[53]⟩,1⟩,⟨0,⟨#[77]⟩,⟨#[50]⟩,1⟩]
def suR:List ByteArray:=[⟨#[45,52,47,51]⟩,⟨#[45,52,47,51]⟩,⟨#[56,47,51]⟩,⟨#[48]⟩]
def suS:List ByteArray:=[⟨#[50,47,51]⟩,⟨#[50,47,51]⟩,⟨#[50,47,51]⟩,⟨#[48]⟩]
theorem aON:b6 bT wO=0:=by decide+kernel
theorem W3:∀ m∈wO,m.txt.size<=maxLen:=by decide+kernel
theorem aLc:mI bT wO:=by unfold mI Reg;decide+kernel
theorem aLe:bX bT wO=[0,-19/3,-22/3]:=by decide+kernel
theorem FM:bD bT wO (bX bT wO)=[-4/3,-4/3,8/3,0]:=by decide+kernel
theorem FL:eQ bT wO=[2/3,2/3,2/3,0]:=by decide+kernel
theorem aHf:bD bT suK (bX bT suK)=[0,0,0]:=by decide+kernel
theorem aLb:bV 0=⟨#[48]⟩/\bV (-4/3)=⟨#[45,52,47,51]⟩/\bV (8/3)=⟨#[56,47,51]⟩/\bV (2/3)=⟨#[50,47,51]⟩:=by decide+kernel
theorem aLd:∀ q∈bX bT wO,bZ q:=by
 rw [aLe];intro q hq;simp only [List.mem_cons,List.not_mem_nil,or_false] at hq;rcases hq with rfl | rfl | rfl<;>exact CK (by decide+kernel)
theorem aHd:∀ q∈bD bT wO (bX bT wO),bZ q:=by
 rw [FM];intro q hq;simp only [List.mem_cons,List.not_mem_nil,or_false] at hq;rcases hq with rfl | rfl | rfl | rfl<;>exact CK (by decide+kernel)
theorem aHc:∀ q∈eQ bT wO,bZ q:=by
 rw [FL];intro q hq;simp only [List.mem_cons,List.not_mem_nil,or_false] at hq;rcases hq with rfl | rfl | rfl | rfl<;>exact CK (by decide+kernel)
theorem aCB:(bD bT wO (bX bT wO)).map bV=suR/\(eQ bT wO).map bV=suS:=by
 obtain ⟨h0,h1,h2,h3⟩:=aLb;rw [FM,FL];simp only [List.map_cons,List.map_nil,h0,h1,h2,h3,suR,suS,and_self]
theorem EL:pQ bT wO 0:=.inr (.inr (.inr ⟨aON,aLc,aLd,rfl⟩))
theorem MB {b:Int} (h:gO (bD bT wO (bX bT wO)) (eQ bT wO) wO.length b):b=2:=by
 refine h.one (.inr ⟨2,rfl,by decide,?_,?_,?_⟩)
 ·rw [FM,FL]
  unfold WOk;decide+kernel
 ·rw [FM,FL]
  intro i hi hw;have:i=0\/i=1\/i=2\/i=3:=by
   have hi':i<4:=hi;omega
  unfold OD;unfold WOk at hw;rcases this with rfl | rfl | rfl | rfl
  ·decide+kernel
  ·decide+kernel
  ·decide+kernel
  ·exact absurd hw (by decide+kernel)
 ·rw [FM,FL]
  intro i hi hw;have:i=0\/i=1:=by omega
  unfold OD;rcases this with rfl | rfl<;>decide+kernel
theorem aCC {b:Int} (h:gO (bD bT suK (bX bT suK)) (eQ bT suK) suK.length b):b=-1:=by
 refine h.one (.inl ⟨rfl,fun k hk hw=>hw.1 ?_⟩);rw [aHf];have:k=0\/k=1\/k=2:=by
  have hk':k<3:=hk;omega
 rcases this with rfl | rfl | rfl<;>decide+kernel
theorem aLf {r:List Nat} (h:ClG bT (List.range wO.length) wO [] r):r=[2]:=by
 cases h with
 | done hw hb=>have:=MB hw;omega
 | @step _ _ _ _ k i hw hk h=>
  have e:=MB hw;have e2:k=2:=by omega
  subst e2;have hi:i=2:=by
   have h2:(List.range wO.length)[2]?=some 2:=by decide
   rw [h2] at hk;injection hk with hk;exact hk.symm
  subst hi;have h3:wO.eraseIdx 2=suK:=rfl;rw [h3] at h;cases h with
  | done hw hb=>rfl
  | step hw hk h=>have:=aCC hw;omega
end
section
open Go.ChangeShapes Go.WideShapes Go.ChangeAt Go.RowKit
attribute [local go_sem ↓] aE
attribute [local go_sem] aK aH aM aY
theorem aHe {w w':Wo} {e:Ending} (h:aQX bT wO w e w'):Below w.heap.size w w'/\∃ A c,e=.returned (.tuple #[.slice A 4 c,.int .i64 0])/\bG w' w'.heap.size A 4 suR:=by
 obtain ⟨hb,⟨c,h0,h1,-⟩ | ⟨-,h1,-⟩⟩:=h
 ·exact absurd (h1.one EL) h0
 ·obtain ⟨A,n,c,rfl,h2,-,-⟩:=h1 aHd
  rw [aCB.1] at h2;have hn:n=4:=h2.1.symm;subst hn;exact ⟨hb,A,c,rfl,h2⟩
theorem aHb {w w':Wo} {e:Ending} (h:aQQ bT wO w e w'):Below w.heap.size w w'/\∃ A c,e=.returned (.tuple #[.slice A 4 c,.int .i64 0])/\bG w' w'.heap.size A 4 suS:=by
 obtain ⟨hb,⟨c,h0,h1,-⟩ | ⟨-,h1,-⟩⟩:=h
 ·exact absurd (h1.one EL) h0
 ·obtain ⟨A,n,c,rfl,h2,-,-⟩:=h1 aHc
  rw [aCB.2] at h2;have hn:n=4:=h2.1.symm;subst hn;exact ⟨hb,A,c,rfl,h2⟩
theorem aHa {w w':Wo} {e:Ending} (h:aQN bT wO w e w'):Below w.heap.size w w'/\e=.returned (.tuple #[.int .i64 2,.int .i64 0]):=by
 obtain ⟨hb,⟨c,h0,h1,-⟩ | ⟨-,b,h1,h2⟩⟩:=h
 ·exact absurd (h1.one EL) h0
 ·have e:=MB h1
  subst e;rcases h2 with ⟨h,-⟩ | ⟨-,h⟩
  ·omega
  ·exact ⟨hb,h⟩
theorem aHg {w w':Wo} {e:Ending} (h:aSY bT wO w e w'):Below w.heap.size w w'/\∃ A c,e=.returned (.tuple #[.slice A 1 c,.int .i64 0])/\nL w' w'.heap.size A 1 [2]:=by
 obtain ⟨hb,⟨c,h0,h1,-⟩ | ⟨-,r,A,c,h1,rfl,h2,-,-⟩⟩:=h
 ·exact absurd (h1.one EL) h0
 ·have e:=aLf h1
  subst e;exact ⟨hb,A,c,rfl,h2⟩
theorem FI (w:Wo) (ht:dA w):Calls Tryz.prog 33 #[] w fun e w'=>e=.returned (.bool true)/\Below w.heap.size w w':=by
 have HT:=lH ht;clear ht;go_enter Tryz.func33,Tryz.ntmps33
 go_wp2_with fail
 refine (fF ⟨#[76]⟩ ⟨#[53]⟩ w).mono ?_;rintro e w1 ⟨rfl,bH⟩
 go_wp2_with fail
 refine (fF ⟨#[76]⟩ ⟨#[53]⟩ w1).mono ?_;rintro e w2 ⟨rfl,bL⟩
 go_wp2_with fail
 refine (fF ⟨#[76]⟩ ⟨#[57]⟩ w2).mono ?_;rintro e w2b ⟨rfl,aQt⟩
 go_wp2_with fail
 refine (fF ⟨#[77]⟩ ⟨#[50]⟩ w2b).mono ?_;rintro e w3 ⟨rfl,cR⟩;have uQ:=bH.tm bL;have aEL:=uQ.tm aQt;have dR:=lH (aEL.tm cR);clear bH bL cR aQt uQ aEL
 go_upto_region 2 with fail
 have hz:Below w3.heap.size w3 (w3.alloc (.cells #[.int .i64 0,.string ⟨#[76]⟩,.string ⟨#[53]⟩,.int .i64 1,.int .i64 0,.string ⟨#[76]⟩,.string ⟨#[53]⟩,.int .i64 1,.int .i64 0,.string ⟨#[76]⟩,.string ⟨#[57]⟩,.int .i64 1,.int .i64 0,.string ⟨#[77]⟩,.string ⟨#[50]⟩,.int .i64 1] 57)):=bA;have HB:=lH (dR.o.tm hz)
 have HM:Hid (eG (w3.alloc (.cells #[.int .i64 0,.string ⟨#[76]⟩,.string ⟨#[53]⟩,.int .i64 1,.int .i64 0,.string ⟨#[76]⟩,.string ⟨#[53]⟩,.int .i64 1,.int .i64 0,.string ⟨#[76]⟩,.string ⟨#[57]⟩,.int .i64 1,.int .i64 0,.string ⟨#[77]⟩,.string ⟨#[50]⟩,.int .i64 1] 57)) (w3.alloc (.cells #[.int .i64 0,.string ⟨#[76]⟩,.string ⟨#[53]⟩,.int .i64 1,.int .i64 0,.string ⟨#[76]⟩,.string ⟨#[53]⟩,.int .i64 1,.int .i64 0,.string ⟨#[76]⟩,.string ⟨#[57]⟩,.int .i64 1,.int .i64 0,.string ⟨#[77]⟩,.string ⟨#[50]⟩,.int .i64 1] 57)).heap.size (some ⟨w3.heap.size,0,none⟩) 4 wO):=lH ⟨rfl,uJ (vs:=wO.flatMap Mi.cells) (T:=57) (aG.new w3 _ _) rfl (by simp)⟩;clear hz dR
 generalize w3.alloc (.cells #[.int .i64 0,.string ⟨#[76]⟩,.string ⟨#[53]⟩,.int .i64 1,.int .i64 0,.string ⟨#[76]⟩,.string ⟨#[53]⟩,.int .i64 1,.int .i64 0,.string ⟨#[76]⟩,.string ⟨#[57]⟩,.int .i64 1,.int .i64 0,.string ⟨#[77]⟩,.string ⟨#[50]⟩,.int .i64 1] 57)=w4 at *;generalize w3.heap.size=gl at *
 go_wp2_with fail
 refine (eL w4).mono ?_;rintro e wa1 ⟨h1,rfl,yQ,bH⟩;replace HB:=lH (HB.o.tm bH);replace HM:=lH (HM.o.bm bH);have HR:=lH yQ;have tT:=lH (HT.o.up HB.o);clear bH yQ
 go_wp2_with fail
 refine (BP h1 bT (by decide) _ 4 4 wO wa1 HR.o HM.o W3 (by decide) tT.o).mono ?_;intro e wb1 hh;obtain ⟨pK,A1,c1,rfl,DZ⟩:=aHe hh;replace HB:=lH (HB.o.tm pK);replace HM:=lH (HM.o.bm pK);have HA:=lH DZ;clear DZ;clear hh pK HR tT
 go_wp2_with fail
 refine (eL wb1).mono ?_;rintro e wa2 ⟨h2,rfl,MY,bL⟩;replace HB:=lH (HB.o.tm bL);replace HM:=lH (HM.o.bm bL);replace HA:=lH (HA.o.bm bL);have HR:=lH MY;have tT:=lH (HT.o.up HB.o);clear bL MY
 go_wp2_with fail
 refine (O3 h2 bT (by decide) _ 4 4 wO wa2 HR.o HM.o W3 (by decide) tT.o).mono ?_;intro e wb2 hh;obtain ⟨pK,A2,c2,rfl,DZ⟩:=aHb hh;replace HB:=lH (HB.o.tm pK);replace HM:=lH (HM.o.bm pK);replace HA:=lH (HA.o.bm pK);have HS:=lH DZ;clear DZ;clear hh pK HR tT
 go_wp2_with fail
 refine (eL wb2).mono ?_;rintro e wa3 ⟨h3,rfl,CB,cR⟩;replace HB:=lH (HB.o.tm cR);replace HM:=lH (HM.o.bm cR);replace HA:=lH (HA.o.bm cR);replace HS:=lH (HS.o.bm cR);have HR:=lH CB;have tT:=lH (HT.o.up HB.o);clear cR CB
 go_wp2_with fail
 refine (S5 h3 bT (by decide) _ 4 4 wO wa3 HR.o HM.o W3 (by decide) tT.o).mono ?_;intro e wb3 hh;obtain ⟨pK,rfl⟩:=aHa hh;replace HB:=lH (HB.o.tm pK);replace HM:=lH (HM.o.bm pK);replace HA:=lH (HA.o.bm pK);replace HS:=lH (HS.o.bm pK);clear hh pK HR tT
 go_wp2_with fail
 refine (eL wb3).mono ?_;rintro e wa4 ⟨h4,rfl,GL,dU⟩;replace HB:=lH (HB.o.tm dU);replace HM:=lH (HM.o.bm dU);replace HA:=lH (HA.o.bm dU);replace HS:=lH (HS.o.bm dU);have HR:=lH GL;have tT:=lH (HT.o.up HB.o);clear dU GL
 go_wp2_with fail
 refine (aA0 h4 bT (by decide) _ 4 4 wO wa4 HR.o HM.o W3 (by decide) tT.o).mono ?_;intro e wb4 hh;obtain ⟨pK,A4,c4,rfl,DZ⟩:=aHg hh;replace HB:=lH (HB.o.tm pK);replace HM:=lH (HM.o.bm pK);replace HA:=lH (HA.o.bm pK);replace HS:=lH (HS.o.bm pK);have HI:=lH DZ;clear DZ;clear hh pK HR tT;replace HA:Hid (bG wb4 wb4.heap.size A1 4 [⟨#[45,52,47,51]⟩,⟨#[45,52,47,51]⟩,⟨#[56,47,51]⟩,⟨#[48]⟩]):=HA;replace HS:Hid (bG wb4 wb4.heap.size A2 4 [⟨#[50,47,51]⟩,⟨#[50,47,51]⟩,⟨#[50,47,51]⟩,⟨#[48]⟩]):=HS;clear HM
 go_wp2_with fail
 have hz:Below wb4.heap.size wb4 (wb4.alloc (.cells #[.string ⟨#[45,52,47,51]⟩,.string ⟨#[45,52,47,51]⟩,.string ⟨#[56,47,51]⟩,.string ⟨#[48]⟩] 55)):=bA;have HL:Hid (bG (wb4.alloc (.cells #[.string ⟨#[45,52,47,51]⟩,.string ⟨#[45,52,47,51]⟩,.string ⟨#[56,47,51]⟩,.string ⟨#[48]⟩] 55)) (wb4.alloc (.cells #[.string ⟨#[45,52,47,51]⟩,.string ⟨#[45,52,47,51]⟩,.string ⟨#[56,47,51]⟩,.string ⟨#[48]⟩] 55)).heap.size (some ⟨wb4.heap.size,0,none⟩) 4 [⟨#[45,52,47,51]⟩,⟨#[45,52,47,51]⟩,⟨#[56,47,51]⟩,⟨#[48]⟩]):=lH (eR (zs:=[⟨#[45,52,47,51]⟩,⟨#[45,52,47,51]⟩,⟨#[56,47,51]⟩,⟨#[48]⟩]) (T:=55) (aG.new_ (w:=wb4) (by simp)) (by simp));replace HB:=lH (HB.o.tm hz);replace HA:=lH (HA.o.bm hz);replace HS:=lH (HS.o.bm hz);replace HI:=lH (HI.o.bm hz);clear hz
 generalize wb4.alloc (.cells #[.string ⟨#[45,52,47,51]⟩,.string ⟨#[45,52,47,51]⟩,.string ⟨#[56,47,51]⟩,.string ⟨#[48]⟩] 55)=wl1 at *;refine (qC A1 4 c1 _ _ 4 4 _ wl1 HA.o HL.o (by decide) (by decide)).mono ?_;rintro e wm1 ⟨rfl,hb⟩;rw [decide_eq_true rfl];replace HB:=lH (HB.o.tm hb);replace HS:=lH (HS.o.bm hb);replace HI:=lH (HI.o.bm hb);clear hb HL HA
 go_wp2_with fail
 have hz:Below wm1.heap.size wm1 (wm1.alloc (.cells #[.string ⟨#[50,47,51]⟩,.string ⟨#[50,47,51]⟩,.string ⟨#[50,47,51]⟩,.string ⟨#[48]⟩] 55)):=bA;have HL:Hid (bG (wm1.alloc (.cells #[.string ⟨#[50,47,51]⟩,.string ⟨#[50,47,51]⟩,.string ⟨#[50,47,51]⟩,.string ⟨#[48]⟩] 55)) (wm1.alloc (.cells #[.string ⟨#[50,47,51]⟩,.string ⟨#[50,47,51]⟩,.string ⟨#[50,47,51]⟩,.string ⟨#[48]⟩] 55)).heap.size (some ⟨wm1.heap.size,0,none⟩) 4 [⟨#[50,47,51]⟩,⟨#[50,47,51]⟩,⟨#[50,47,51]⟩,⟨#[48]⟩]):=lH (eR (zs:=[⟨#[50,47,51]⟩,⟨#[50,47,51]⟩,⟨#[50,47,51]⟩,⟨#[48]⟩]) (T:=55) (aG.new_ (w:=wm1) (by simp)) (by simp));replace HB:=lH (HB.o.tm hz);replace HS:=lH (HS.o.bm hz);replace HI:=lH (HI.o.bm hz);clear hz
 generalize wm1.alloc (.cells #[.string ⟨#[50,47,51]⟩,.string ⟨#[50,47,51]⟩,.string ⟨#[50,47,51]⟩,.string ⟨#[48]⟩] 55)=wl2 at *;refine (qC A2 4 c2 _ _ 4 4 _ wl2 HS.o HL.o (by decide) (by decide)).mono ?_;rintro e wm2 ⟨rfl,hb⟩;rw [decide_eq_true rfl];replace HB:=lH (HB.o.tm hb);replace HI:=lH (HI.o.bm hb);clear hb HL HS
 go_wp2_with fail
 have hz:Below wm2.heap.size wm2 (wm2.alloc (.cells #[.int .i64 2] 3)):=bA;have HL:Hid (nL (wm2.alloc (.cells #[.int .i64 2] 3)) (wm2.alloc (.cells #[.int .i64 2] 3)).heap.size (some ⟨wm2.heap.size,0,none⟩) 1 [2]):=lH (uJ (vs:=ints [2]) (T:=3) (aG.new wm2 _ _) rfl (by simp));replace HB:=lH (HB.o.tm hz);replace HI:=lH (HI.o.bm hz);clear hz;generalize wm2.alloc (.cells #[.int .i64 2] 3)=wl3 at *;refine (nZ A4 1 c4 [2] _ 1 1 [2] wl3 HI.o HL.o (by decide)).mono ?_;rintro e wm3 ⟨rfl,nq,hw⟩;have hb:Below wl3.heap.size wl3 wm3:=by rw [hw];exact bC bR nq
 rw [show C_ [2] [2]=true from by decide];replace HB:=lH (HB.o.tm hb);clear hw;clear hb HL HI
 go_wp2_with fail
 go_ret;exact ⟨rfl,HB.o⟩
end

import Derived.Test.YthgdchffeigkbaaGreatDoorW21
set_option linter.unusedVariables false
set_option linter.unusedSimpArgs false
namespace Go.Proofs.YthgdchffeigkbaaGreatDoor
set_option maxHeartbeats 4000000
set_option maxRecDepth 100000
variable {ms : List Mi} {x : bK}
open Go.ChangeShapes Go.WideShapes Go.ChangeAt Go.RowKit
attribute [local go_sem ↓] aE
attribute [local go_sem] aL aK aO a_
theorem aH4{n:Nat}{M:List (List Rat)}(h:WO n M):cK M<=n:=by
 obtain⟨E,piv,h1,h2,_,_⟩:=yE h;have:=h1.free_len;omega
theorem aH3{n:Nat}{M:List (List Rat)}(h:WO n M):cK M=n<->∀x,uQ n (tG M) x->∀j,j<n->x j=0:=by
 obtain⟨E,piv,h1,h2,h3,_⟩:=yE h;rw[<-h2,CR h1];exact⟨fun g x hx=>g x ((h3 x).2 hx),fun g x hx=>g x ((h3 x).1 hx)⟩
theorem DP:∀(p rows:List (List Rat)) (i:Nat),(sU rows p i).1=rows++(sU rows p i).2.map fun t=>p.getD (t-i) []
 | [],rows,i=>by simp[sU]
 | a::r,rows,i=>by
  have key:∀(R:List (List Rat)),(sU R r (i+1)).2.map (fun t=>r.getD (t-(i+1)) [])=(sU R r (i+1)).2.map fun t=>(a::r).getD (t-i) []:=fun R=>by
   refine List.map_congr_left fun t ht=>?_;have:=wV r R (i+1) t ht;rw[show t-i=(t-(i+1))+1 from by omega];simp
  unfold sU;split
  ·simp only[List.map_cons]
   rw[DP r _ (i+1),key,Nat.sub_self];simp
  ·rw[DP r _ (i+1),key]
theorem LE:∀{ms:List Mi},(∀m∈ms,AM x m=0)->qB x ms=0
 | [],_=>rfl
 | a::r,h=>by
  unfold qB;rw[if_pos (h a List.mem_cons_self)];exact LE fun m hm=>h m (List.mem_cons_of_mem _ hm)
theorem yN(h:cN x ms=0):iV x=0/\ms.length<=64/\∀m∈ms,AM x m=0:=by
 unfold cN at h;split at h
 ·exact absurd h (by assumption)
 ·rename_i hn
  split at h
  ·omega
  ·exact⟨by omega,by omega,vE h⟩
theorem aD6(hn:iV x=0)(hl:ms.length<=64)(h:∀m∈ms,AM x m=0):cN x ms=0:=by
 unfold cN;rw[if_neg (by omega),if_neg (by omega)];exact LE h
theorem KZ{a b:List Mi}:aP x (a++b)=aP x a++aP x b:=by unfold aP;rw[List.map_append]
theorem aAt(h:cN x ms=0):WO (aA x).length (aP x ms):=by
 obtain⟨ok,_,hm⟩:=mI h;exact(fQ ok hm).1
theorem aBo(ok:bJ x)(hm:∀m∈ms,qU x m)(wL:∀m∈ms,1<=m.wt):o5 x ms<->cK (aP x ms)=(aA x).length:=by
 rw[AY wL];have hw:WO (aA x).length (aP x ms):=(fQ ok hm).1;rw[aH3 hw];refine forall_congr' fun c=>?_;have:uQ (aA x).length (tG (aP x ms)) c<->∀k,k<ms.length->aV (aA x).length ((jC x ms).R k) c=0:=by
  rw[nQ]
  constructor
  ·intro h k hk
   obtain⟨r,hr⟩:∃r,(aP x ms)[k]?=some r:=eE (by rw[p_];exact hk);have:=h k r hr;show aV _ (vf ((aP x ms).getD k [])) c=0;rw[dH,hr];exact this
  ·intro h k r hr
   have:=h k (by have:=(cY.1 hr).1;rwa[p_] at this);rw[show(jC x ms).R k=vf ((aP x ms).getD k []) from rfl,dH,hr] at this;exact this
 rw[this]
theorem PM(h:jB x ms []=true):x.nodes.length<=8/\∀m∈ms,m.txt.size<=maxLen:=by
 unfold jB at h;simp only[Bool.and_eq_true,decide_eq_true_eq,List.all_eq_true] at h;exact⟨h.1.1.1,fun m hm=>b_ (h.1.2 m hm) (by decide)⟩
theorem NX{al:List Rat}(hf:∀m∈ms,cH (yM x al m)):∀m∈ms.map (dQ x al),m.txt.size<=maxLen:=fun m hm=>by
 obtain⟨m0,h0,rfl⟩:=List.mem_map.1 hm;exact TR (hf m0 h0)
theorem aBO{l p:List Mi}(h:TD x l p=0):cN x l=0/\cN x p=0/\(aA x).length<=cK (EP x l p).1:=by
 unfold TD at h;split at h
 ·exact absurd h (by assumption)
 ·rename_i h1
  split at h
  ·exact absurd h (by assumption)
  ·rename_i h2
   split at h
   ·omega
   ·exact⟨by omega,by omega,by omega⟩
theorem T3{l p:List Mi}:aP x (JU x l p)=(EP x l p).1:=by
 unfold JU;rw[KZ];have h:=DP (aP x p) (aP x l) 0;unfold EP;rw[h];congr 1
 unfold nX;have key:∀idx:List Nat,(∀t∈idx,t<p.length)->aP x (idx.map fun t=>p.getD t mi0)=idx.map fun t=>(aP x p).getD (t-0) []:=fun idx=>by
  induction idx with
  | nil=>intro _;rfl
  | cons t r ih=>
   intro aR;have ht:=aR t List.mem_cons_self;have e1:aP x ((t::r).map fun t=>p.getD t mi0)=fM x (aS x (p.getD t mi0)).1::aP x (r.map fun t=>p.getD t mi0):=rfl;rw[e1,ih fun u hu=>aR u (List.mem_cons_of_mem _ hu),List.map_cons,Nat.sub_zero];congr 1
   have hg:p[t]?=some (p.getD t mi0):=by rw[dH,gS ht];rfl
   have e2:(aP x p).getD t []=fM x (aS x (p.getD t mi0)).1:=by rw[dH,CM hg];rfl
   exact e2.symm
 exact key _ fun t ht=>WN ht
theorem aHK{al:List Rat}{ps:List Mi}{l:List Nat}(h:∀t∈l,t<ps.length):nX (ps.map (dQ x al)) l=(nX ps l).map (dQ x al):=by
 unfold nX;rw[List.map_map];refine List.map_congr_left fun t ht=>?_;have hl:=h t ht;show(ps.map (dQ x al)).getD t mi0=dQ x al (ps.getD t mi0);rw[dH,dH,lT,gS hl];rfl
theorem aC4{ps:List Mi}{l:List Nat}(h:∀t∈l,t<ps.length):∀m∈nX ps l,m∈ps:=fun m hm=>by
 obtain⟨t,ht,rfl⟩:=List.mem_map.1 hm;rw[dH,gS (h t ht)];exact List.getElem_mem _
theorem UB{x:bK}{al:List Rat}{ms ps me pe:List Mi}(hme:ms.map (dQ x al)=me)(hpe:ps.map (dQ x al)=pe)(hf:∀m∈ms,cH (yM x al m))(hf':∀m∈ps,cH (yM x al m))(hc:cN x ms=0)(hc':cN x ps=0)(hg:XF x al)(hfa:∀q∈al,cH q)(h0:cmE x me pe=0):rV x (JU x me pe) 0/\cE x (JU x me pe)=al/\(∀m∈JU x me pe,m.txt.size<=maxLen)/\(JU x me pe).length<=64:=by
 have hr:=T3 (x:=x) (l:=me) (p:=pe);have aR:∀t∈(EP x me pe).2,t<ps.length:=fun t ht=>by
  have:=WN ht;rwa[<-hpe,iT] at this
 have e:JU x me pe=(ms++nX ps (EP x me pe).2).map (dQ x al):=by
  unfold JU;rw[List.map_append,<-aHK aR,hme,hpe]
 have hl:(JU x me pe).length<=64/\TD x me pe=0:=by
  unfold cmE at h0;split at h0
  ·exact absurd h0 (by assumption)
  ·rename_i h1
   split at h0
   ·omega
   ·exact⟨by omega,Decidable.not_not.1 h1⟩
 obtain⟨-,-,hrk⟩:=aBO hl.2;rw[<-hr] at hrk;generalize (EP x me pe).2=idx at *;generalize hL:ms++nX ps idx=L at *;rw[e] at hl hrk ⊢;have Q8:∀m∈L,m∈ms\/m∈ps:=fun m hm=>by
  rw[<-hL] at hm;rcases List.mem_append.1 hm with h | h
  ·exact .inl h
  ·exact .inr (aC4 aR m h)
 have hfL:∀m∈L,cH (yM x al m):=fun m hm=>(Q8 m hm).elim (hf m) (hf' m);have hcL:cN x L=0:=aD6 (yN hc).1 (by have:=hl.1;rwa[iT] at this) fun m hm=>(Q8 m hm).elim ((yN hc).2.2 m) ((yN hc').2.2 m);have hcE:=aKX hfL hcL;obtain⟨ok,-,jZ⟩:=mI hcE;have iP:o5 x (L.map (dQ x al)):=(aBo ok jZ fun m hm=>((AL hcE).2 m hm).1).2 (Nat.le_antisymm (aH4 (aAt hcE)) hrk);obtain⟨e1,-⟩:=aFB hfL hcL hg iP;exact⟨.inr (.inr (.inr ⟨hcE,iP,by rw[e1];exact hfa,rfl⟩)),e1,NX hfL,hl.1⟩
theorem aLB{d:Int}(h:rV x ms 0)(hf:∀q∈dM x (cE x ms),cH q)(hd:d≠0):¬StC x ms d:=fun hs=>by
 rcases hs with⟨h1,h2⟩ | ⟨_,h2,_⟩ | ⟨_,_,h3⟩
 ·exact hd (rV.one h h1).symm
 ·exact h2 hf
 ·exact hd h3
theorem aLF(h:bZ)(x:bK)(I:OA)(ni ci:Nat)(zs:List Int)(A:OA)(n c:Nat)(ms0:List Mi)(A':OA)(n' c':Nat)(ps0:List Mi)(w:Wo)(r:cL w w.heap.size h x)(hi:pK w w.heap.size I ni zs)(hni:ni<=9223372036854775807)(hm:eB w w.heap.size A n ms0)(hp:eB w w.heap.size A' n' ps0)(hnc:n<=c)(hc:c<=9223372036854775807)(a2O:n'<=c')(hc':c'<=9223372036854775807)(ht:fL w):Calls Tryz.prog 4 #[.agg h.cells,.slice I ni ci,.slice A n c,.slice A' n' c'] w fun e w'=>e=.returned (.bool true)/\Below w.heap.size w w':=by
 obtain⟨k,hk4,rR,aER⟩:∃k:Nat,k<=4/\k<=n/\min (n:Int) 4=(k:Int):=⟨min n 4,by omega,by omega,by omega⟩
 obtain⟨k',hk5,hkn',hmin'⟩:∃k:Nat,k<=5/\k<=n'/\min (n':Int) 5=(k:Int):=⟨min n' 5,by omega,by omega,by omega⟩
 have hkc:(k:Int)<=(c:Int):=by omega
 have a27:(k':Int)<=(c':Int):=by omega
 have FV:=hm.take rR;have hp1:=hp.take hkn';generalize hms:ms0.take k=ms at *;generalize DE:ps0.take k'=ps at *;clear hms DE hm hp;have K0:=jO w (.cells h.cells 29);obtain⟨HK,P0,HX,HM,HP⟩:=iS K0 (aD.new w 29 h.cells) (r.up K0) (FV.bm K0) (hp1.bm K0);have HT:=lH (ht.up K0);have HI:=lH (hi.bm K0);have lB:Hid (ms.length=k):=lH FV.1;have BL:Hid (ps.length=k'):=lH hp1.1;clear K0 FV hp1 r ht hi;obtain⟨D0,r0,s0,D1,r1,s1,D2,r2,s2,D3,r3,s3,D4,r4,s4,D5,r5,s5⟩:=h;go_enter Tryz.func4,Tryz.ntmps4
 go_wp2_with fail
 have eC:Hid (w.heap.size<=(w.alloc (.cells (bZ.cells ⟨D0,r0,s0,D1,r1,s1,D2,r2,s2,D3,r3,s3,D4,r4,s4,D5,r5,s5⟩) 29)).heap.size):=lH HK.o.size;generalize w.alloc (.cells (bZ.cells ⟨D0,r0,s0,D1,r1,s1,D2,r2,s2,D3,r3,s3,D4,r4,s4,D5,r5,s5⟩) 29)=W at *
 go_quiet (fail)
 go_wp2_with fail
 have l_:=bF (Below.refl W.heap.size W) nq;replace HX:=lH (HX.o.up l_);replace HM:=lH (HM.o.bm l_);replace HP:=lH (HP.o.bm l_);replace HI:=lH (HI.o.bm l_);replace P0:=lH (P0.o.bl l_);replace HT:=lH (HT.o.up l_);have eD:Hid (Below w.heap.size w (W.drewN nq)):=lH (HK.o.trans (l_.mono eC.o));clear l_ HK eC;generalize W.drewN nq=W0 at *;refine(Q7 W0 HT.o).mono ?_;rintro e w2 ⟨rfl,bH⟩;have dN:=cJ eD bH;replace HX:=lH (HX.o.up bH);replace HM:=lH (HM.o.bm bH);replace HP:=lH (HP.o.bm bH);replace HI:=lH (HI.o.bm bH);replace P0:=lH (P0.o.bl bH);replace HT:=lH (HT.o.up bH);clear bH eD
 go_upto_region 4 with fail
 go_cut [38] (fun vv wc=>vv=.bool (!(jB x (ms++ps) []))/\Below w2.heap.size w2 wc)
 case first=>
  have PNX:=P0.o;obtain⟨y0,y1,y2,y3,y4,y5,nf,nlt⟩:=aX PNX;dsimp only at y0 y1 y2 y3 y4 y5;clear PNX;refine kQ 7 (fun hHeld=>?_);simp only[m_,List.take_zero];refine cR [0,2,4] ?_;clear y0 y1 y2 y3 y4 y5 nf nlt;have BU:=lH (aI (Below.refl w2.heap.size w2));generalize w2.drew=v0 at *;refine bI 1 (fun K hK=>?_);go_simp;have hz:=jO v0 (.cells #[] 57);have rU:Hid (dG (v0.alloc (.cells #[] 57)) v0.heap.size (.slice (some ⟨v0.heap.size,0,none⟩) 0 0) []):=lH GZ;have pL:Hid (Below w2.heap.size w2 (v0.alloc (.cells #[] 57))):=lH (BU.o.tm hz);have HG0:Hid (w2.heap.size<=v0.heap.size/\v0.heap.size<(v0.alloc (.cells #[] 57)).heap.size):=lH ⟨BU.o.size,by simp⟩;generalize v0.alloc (.cells #[] 57)=v1 at *;generalize v0.heap.size=g0 at *;clear hz BU;refine iB hK pL.o (fun hHeld=>?_);clear hK K;refine bI 3 (fun K hK=>?_);refine U2 (by rfl) ?_;refine F_ (.tmp 32) (.tmp 33) 31 rfl g0 Tryz.underlying31 (.slice (some ⟨g0,0,none⟩) 0 0) [] rfl rU.o A k c ms rfl (HM.o.bm pL.o) ?k1 ?k2 k ?k3 ?_
  case k1=>simp only[zW_];omega
  case k2=>have:=HG0.o;omega
  case k3=>rw[List.nil_append];exact lB.o
  intro Ay cy v2 ho hb hg;have F6:Hid (dG v2 g0 (.slice Ay k cy) ms):=lH ho;have yA:Hid (Below w2.heap.size w2 v2):=lH (pL.o.trans (hb.mono HG0.o.1));have mA:Hid (g0<v2.heap.size):=lH (by have:=HG0.o;have:=hb.size;omega);clear ho hb hg rU pL;refine iB hK yA.o (fun hHeld=>?_);clear hK K;refine bI 5 (fun K hK=>?_);refine U2 (by rfl) ?_;refine F_ (.tmp 34) (.tmp 35) 31 rfl g0 Tryz.underlying31 (.slice Ay k cy) ms rfl F6.o A' k' c' ps rfl (HP.o.bm yA.o) ?k1 ?k2 (k+k') ?k3 ?_
  case k1=>rw[lB.o];omega
  case k2=>have:=mA.o;omega
  case k3=>rw[g_,lB.o,BL.o]
  intro Az cz v3 ho hb hg;have HO3:Hid (dG v3 g0 (.slice Az (k+k') cz) (ms++ps)):=lH ho;have DR:Hid (Below w2.heap.size w2 v3):=lH (yA.o.trans (hb.mono HG0.o.1));clear ho hb hg F6 yA;refine iB hK DR.o (fun hHeld=>?_);clear hK K;refine bI 6 (fun K hK=>?_);go_simp;obtain⟨qJ,FV,wM⟩:=HO3.o.rd2;refine(KW _ x Az (k+k') cz (ms++ps) none 0 0 [] v3 (HX.o.up DR.o) qJ (aDv _ _) (by omega) (by decide)).mono ?_;rintro e v4 ⟨rfl,gE⟩;have ZP:Hid (Below w2.heap.size w2 v4):=lH (DR.o.tm gE);clear gE qJ FV wM DR HO3;go_simp;refine iB hK ZP.o (fun hHeld=>?_);clear hK K;refine eP ?_;clear hHeld;(go_wp2_with fail);go_meet
  case rel=>exact⟨by first | rfl | simp,ZP.o⟩
 case rest=>
  obtain⟨rfl,JT⟩:=hcut;have fV:=cJ dN JT;replace HX:=lH (HX.o.up JT);replace HM:=lH (HM.o.bm JT);replace HP:=lH (HP.o.bm JT);replace HI:=lH (HI.o.bm JT);replace P0:=lH (P0.o.bl JT);replace HT:=lH (HT.o.up JT);clear JT dN;generalize wc=w3 at *;cases hsm:jB x (ms++ps) [] with
  | false=>
   (go_wp2_with fail);go_ret;exact⟨rfl,fV.o⟩
  | true=>
   obtain⟨h8,hz⟩:=PM hsm;have HZ1:Hid (∀m∈ms,m.txt.size<=maxLen):=lH fun m hm=>hz m (List.mem_append_left _ hm);have HZ2:Hid (∀m∈ps,m.txt.size<=maxLen):=lH fun m hm=>hz m (List.mem_append_right _ hm);clear hsm hz;obtain⟨y0,y1,y2,y3,y4,y5,nf,nlt⟩:=aX P0.o;dsimp only at y0 y1 y2 y3 y4 y5
   (go_wp2_with fail);clear y0 y1 y2 y3 y4 y5 nf nlt;refine(yX _ x h8 I ni ci zs A k c ms w3 HX.o HI.o hni HM.o HZ1.o (by omega) HT.o).mono ?_;rintro e w4 ⟨gE,A3,n3,c3,B3,m3,d3,M3,k3,e3,b1,rfl,NN⟩;have hz:=jO w4 (.cells #[.slice A3 n3 c3,.slice B3 m3 d3] 37);have oY:=gE.tm hz;have bP:=cJ fV oY;replace HX:=lH (HX.o.up oY);replace HM:=lH (HM.o.bm oY);replace HP:=lH (HP.o.bm oY);replace HI:=lH (HI.o.bm oY);replace P0:=lH (P0.o.bl oY);replace HT:=lH (HT.o.up oY);obtain⟨PS,H3,SP⟩:=dZ (aD.new w4 37 #[.slice A3 n3 c3,.slice B3 m3 d3]) NN hz;clear gE hz oY NN fV;(go_upto_region 7 with fail);generalize w4.alloc (.cells #[.slice A3 n3 c3,.slice B3 m3 d3] 37)=w5 at *;obtain⟨y0,y1,y2,y3,y4,y5,nf,nlt⟩:=aX P0.o;dsimp only at y0 y1 y2 y3 y4 y5;(go_wp2_with fail);clear y0 y1 y2 y3 y4 y5 nf nlt;refine(yX _ x h8 I ni ci zs A' k' c' ps w5 HX.o HI.o hni HP.o HZ2.o (by omega) HT.o).mono ?_;rintro e w6 ⟨gA,A6,n6,c6,B6,m6,d6,M6,k6,e6,b2,rfl,hx6⟩;have hz:=jO w6 (.cells #[.slice A6 n6 c6,.slice B6 m6 d6] 37);have oY:=gA.tm hz;have gQ:=cJ bP oY;replace HX:=lH (HX.o.up oY);replace HM:=lH (HM.o.bm oY);replace HP:=lH (HP.o.bm oY);replace HI:=lH (HI.o.bm oY);replace P0:=lH (P0.o.bl oY);replace HT:=lH (HT.o.up oY);replace PS:=lH (PS.out.bl oY);have H6:=lH hx6;have HZ6:=lH hz;have HZ4:=cJ SP oY;clear gA hz oY hx6 bP SP;(go_upto_region 8 with fail);generalize w6.alloc (.cells #[.slice A6 n6 c6,.slice B6 m6 d6] 37)=w7 at *;cases b1 with
   | false=>
    (go_wp2_with fail);go_ret;exact⟨rfl,gQ.o⟩
   | true=>
   cases b2 with
   | false=>
    (go_wp2_with fail);go_ret;exact⟨rfl,gQ.o⟩
   | true=>
   obtain⟨mD,⟨ha,YQ,ha2⟩,⟨hb,bO,bH⟩,aW⟩:=H3.o rfl;obtain⟨aMd,_,_,o8⟩:=H6.o rfl;obtain⟨me,hme⟩:∃me,ms.map (dQ x (iJ x zs))=me:=⟨_,rfl⟩;obtain⟨pe,hpe⟩:∃pe,ps.map (dQ x (iJ x zs))=pe:=⟨_,rfl⟩;have HM3:=lH hme;have SS:=lH hpe;have HZ5:Hid (∀m∈me,m.txt.size<=maxLen):=lH (by rw[<-hme];exact NX mD.fm);have HZ7:Hid (∀m∈pe,m.txt.size<=maxLen):=lH (by rw[<-hpe];exact NX aMd.fm);have HKK:Hid (me.length=k/\pe.length=k'):=lH (by rw[<-hme,<-hpe,iT,iT];exact⟨lB.o,BL.o⟩);rw[hme] at aW;rw[hpe] at o8;obtain⟨bM,aSy,HA,o3⟩:=h_ mD aMd (ha.bm HZ4.o) (hb.bm HZ4.o);have HQ:=lH (aW.keep HZ4.o).rd2.1;have sW:=lH (o8.keep HZ6.o).rd2.1;have HA1:Hid (n3<=9223372036854775807/\m3<=9223372036854775807):=lH (by unfold maxLen at ha2 bH;exact⟨by omega,by omega⟩);clear mD ha hb aW aMd o8 YQ ha2 bO bH hme hpe H3 H6 HZ4 HZ6 HM HP HI HZ1 HZ2;have hk3:k3<=1000:=by have:=HKK.o;have:=HQ.o.1;omega
   have hk6:k6<=1000:=by have:=HKK.o;have:=sW.o.1;omega
   obtain⟨y0,y1,y2,y3,y4,y5,nf,nlt⟩:=aX P0.o;dsimp only at y0 y1 y2 y3 y4 y5;(go_wp2_with fail);clear y0 y1 y2 y3 y4 y5 nf nlt;refine(L8 _ x h8 M3 k3 e3 me M6 k6 e6 pe w7 HX.o HQ.o sW.o HZ5.o HZ7.o hk3 hk6 HT.o).mono ?_;rintro e w8 ⟨fJ,hh⟩;have dS:=cJ gQ fJ;replace HX:=lH (HX.o.up fJ);replace P0:=lH (P0.o.bl fJ);replace HT:=lH (HT.o.up fJ);replace HA:=lH (HA.o.bm fJ);replace o3:=lH (o3.o.bm fJ);replace PS:=lH (PS.out.bl fJ);clear fJ gQ HQ sW HZ5 HZ7 hk3 hk6 HKK;rcases hh with⟨hce,rfl⟩ | ⟨hce,A9,c9,rfl,oP⟩
   ·have hB:(cmE x me pe != 0)=true:=by simp[hce]
    (go_wp2_with fail);go_ret;exact⟨rfl,dS.o⟩
   ·obtain⟨AS,uH,hZ,h64⟩:=UB HM3.o SS.o bM.o.fm aSy.o.fm bM.o.ck aSy.o.ck PK bM.o.fl.fa hce
    obtain⟨HEC,B7,HSS,H64,DS⟩:=iS AS uH hZ h64 oP;clear AS uH hZ h64 oP hce;generalize JU x me pe=cr at *;generalize wQ:cr.length=nc at *;obtain⟨y0,y1,y2,y3,y4,y5,nf,nlt⟩:=aX P0.o;dsimp only at y0 y1 y2 y3 y4 y5;(go_wp2_with fail);clear y0 y1 y2 y3 y4 y5 nf nlt;refine(CI _ x h8 A9 nc c9 cr w8 HX.o DS.o HSS.o (by have:=H64.o;omega) HT.o).mono ?_;rintro e w9 ⟨gD,iH⟩;have fH:=cJ dS gD;replace HA:=lH (HA.o.bm gD);replace o3:=lH (o3.o.bm gD);replace PS:=lH (PS.out.bl gD);clear dS HX P0 HT;rcases iH with⟨d,hd,JO,rfl⟩ | ⟨hE,OS,A5,n5,c5,B5,m5,d5,rfl,⟨hs5,aPZ,aII⟩,JR,aQU,aIV⟩
    ·exact absurd JO (aLB HEC.o (by rw[B7.o];exact bM.o.fl.ff) hd)
    ·rw[B7.o] at hs5 JR
     have hz:=jO w9 (.cells #[.slice A5 n5 c5,.slice B5 m5 d5] 37);have aGR:=cJ fH hz;obtain⟨HA5,HF5,PT⟩:=dZ (hs5.bm hz) (JR.bm hz) (aD.new w9 37 #[.slice A5 n5 c5,.slice B5 m5 d5]);replace HA:=lH (HA.o.bm hz);replace o3:=lH (o3.o.bm hz);replace PS:=lH (PS.out.bl hz);have oS:Hid (n5<=9223372036854775807/\m5<=9223372036854775807):=lH (by unfold maxLen at aII aIV;exact⟨by omega,by omega⟩);clear hz hs5 JR fH hE OS gD aPZ aII aQU aIV;(go_upto_region 14 with fail);generalize w9.alloc (.cells #[.slice A5 n5 c5,.slice B5 m5 d5] 37)=w10 at *;generalize w9.heap.size=gu at *;obtain⟨q0,ql⟩:=PS.out.b1;obtain⟨t0,tl⟩:=PT.out.b1;(go_wp2_with fail);refine(nZ A3 n3 c3 _ A5 n5 c5 _ w10 HA.o HA5.o HA1.o.1 oS.o.1).mono ?_;rintro e w11 ⟨rfl,kZ⟩;rw[decide_eq_true rfl];have zK:=cJ aGR kZ;replace PS:=lH (PS.out.bl kZ);replace PT:=lH (PT.out.bl kZ);replace o3:=lH (o3.o.bm kZ);replace HF5:=lH (HF5.o.bm kZ);clear kZ q0 ql t0 tl HA HA5 aGR;have q1:=PS.out.cell 1;have ql:=PS.out.lt;have t1:=PT.out.cell 1;have tl:=PT.out.lt;(go_wp2_with fail);refine(nZ B3 m3 d3 _ B5 m5 d5 _ w11 o3.o HF5.o HA1.o.2 oS.o.2).mono ?_;rintro e w12 ⟨rfl,RH⟩;rw[decide_eq_true rfl];have JK:=cJ zK RH;clear RH q1 ql t1 tl o3 HF5 zK;(go_wp2_with fail);go_ret;exact⟨rfl,JK.o⟩

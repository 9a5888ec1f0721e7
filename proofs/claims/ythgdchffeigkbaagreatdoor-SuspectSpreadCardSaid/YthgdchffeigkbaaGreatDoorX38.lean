import Derived.Test.YthgdchffeigkbaaGreatDoorX37
set_option linter.unusedVariables false
set_option linter.unusedSimpArgs false
namespace Go.Proofs.YthgdchffeigkbaaGreatDoor
set_option maxHeartbeats 8000000
set_option maxRecDepth 100000
section
open Go
section
variable {P:Program} {Q:Exit->Act->World->Prop} {md:Region.Mode}
theorem pE {L:List Oper} {S:World->Prop} (i:Nat) {oi:Oper} {fuel:Nat} {listed:Array Bool} {a:Act} {w:Wo} (hi:L[i]?=some oi) (hB:yU md L.toArray listed i=true)
    (hQ:∀ c a w,Q (.panic c) (a.put oi.dst undef) w->Q (.panic c) a w) (hw:Region.wanted oi (yielded L.toArray a.tmps)=false) (hS:S w)
    (h:wpAnyH P md L.toArray Q S fuel (listed.setIfInBounds i true) (a.put oi.dst undef) w):wpAnyH P md L.toArray Q S (fuel+1) listed a w:=by
 unfold yU at hB;rw [Bool.and_eq_true,Bool.and_eq_true] at hB;exact wpAnyH_take (by rw [List.getElem?_toArray];exact hi) hB.1.1 hB.1.2 hB.2 hQ (.inr ⟨hw,rfl⟩) hS h
end
end
section
open Go.ChangeShapes Go.WideShapes Go.ChangeAt Go.RowKit
attribute [local go_sem ↓] aE
attribute [local go_sem] aK aH aM aY
theorem WY {p q:Rat} (hp:bZ p) (hq:bZ q) (h:bV p=bV q):p=q:=by
 rw [<-(kV hp).2,h,(kV hq).2]
def D6 (a b:ByteArray):Int:=if dQ [a,b]=0 then RI (kB a) (kB b) else 0
theorem RD (a b:ByteArray) (ha:a.size<=maxLen) (hb:b.size<=maxLen) (w:Wo) (ht:dA w) :
    Calls Tryz.prog 72 #[.string a,.string b] w (fun e w'=>e=.returned (.tuple #[.int .i64 (D6 a b),.int .i64 (dQ [a,b])])/\Below w.heap.size w w'):=by
 have dB:Hid (Below w.heap.size w (w.alloc (.cells #[.string a,.string b] 55))):=lH (bA);have cJ:=lH (aG.new w 55 #[.string a,.string b]);have HA:=lH (show ∀ s∈[a,b],s.size<=maxLen from fun s hs=>by simp at hs;rcases hs with rfl | rfl<;>assumption);have HT:=lH ht;clear ha hb ht;go_enter Tryz.func72,Tryz.ntmps72
 go_wp2_with fail
 generalize yP:w.alloc (.cells #[.string a,.string b] 55)=wa at *;have Y1:=lH (HT.o.up dB.o);have jY:bG wa wa.heap.size (some ⟨w.heap.size,0,none⟩) 2 [a,b]:=eR cJ.o cJ.o.lt;clear yP;refine (CO (some ⟨w.heap.size,0,none⟩) 2 2 [a,b] wa jY HA.o (by decide) Y1.o).mono ?_;clear jY;rintro e w1 ⟨he,bH⟩;have bS:=lH (dB.o.tm bH);clear bH dB Y1 cJ
 by_cases h0:dQ [a,b]=0
 ·have hv:=oW.1 h0
  have HVA:=lH (hv a (by simp));have wI:=lH (hv b (by simp));have H0:=lH h0;rw [h0] at he;subst he;clear hv h0
  go_wp2_with fail
  refine (rQ HVA.o w1).mono ?_;rintro e w2 ⟨bL,f1,C1,i1,j1,g1,D1,k1,l1,rfl,h1⟩;have bW:=lH (bS.o.tm bL);have H1:=lH h1;clear bL h1 bS
  go_wp2_with fail
  refine (rQ wI.o w2).mono ?_;rintro e w3 ⟨cR,f2,C2,i2,j2,g2,D2,k2,l2,rfl,h2⟩;have dR:=lH (bW.o.tm cR);have H1:=lH (H1.o.up cR);have H2:=lH h2;clear cR h2 bW
  go_wp2_with fail
  refine (PH _ _ f1 C1 i1 j1 g1 D1 k1 l1 f2 C2 i2 j2 g2 D2 k2 l2 w3 H1.o H2.o (GY (gI HVA.o) (gI wI.o))).mono ?_;rintro e w4 ⟨rfl,dU⟩;have bK:=lH (dR.o.tm dU);have HE:Hid (D6 a b=((kB a).num*((kB b).den:Int)-(kB b).num*((kB a).den:Int)).sign):=lH (by unfold D6;rw [if_pos H0.o];rfl);clear dU dR H1 H2;generalize ((kB a).num*((kB b).den:Int)-(kB b).num*((kB a).den:Int)).sign=z at *
  go_wp2_with fail
  go_ret2;exact ⟨by rw [HE.o,H0.o];rfl,bK.o⟩
 ·have HE:Hid (D6 a b=0):=lH (by unfold D6;rw [if_neg h0])
  obtain ⟨z,hz⟩:∃ z,dQ [a,b]=z:=⟨_,rfl⟩;have HZ:=lH hz;rw [hz] at he h0;subst he;have h0b:(z != 0)=true:=by simp [h0]
  clear hz h0
  go_wp2_with fail
  go_ret2;exact ⟨by rw [HE.o,HZ.o];rfl,bS.o⟩
theorem RG (a b:ByteArray) (ha:a.size<=maxLen) (hb:b.size<=maxLen) (w:Wo) (ht:dA w) :
    Calls Tryz.prog 32 #[.string a,.string b] w (fun e w'=>e=.returned (.int .i64 (D6 a b))/\Below w.heap.size w w'):=by
 have HC:=lH (RD a b ha hb w ht);clear ha hb ht;go_enter Tryz.func32,Tryz.ntmps32
 go_wp2_with fail
 refine HC.o.mono ?_;rintro e w1 ⟨rfl,hb⟩;clear HC;have HB:=lH hb;clear hb;generalize hs:D6 a b=s;have HS:=lH hs;clear hs;generalize dQ [a,b]=z
 go_wp2_with fail
 go_ret;exact ⟨by rw [HS.o];rfl,HB.o⟩
end
section
theorem aC2 {M:List (List Rat)} {n:Nat} (h:∀ a∈M,a.length=n) (h0:M=[]->n=0):∃ (E:List Fn) (piv:List Nat),EG E piv n/\piv.length=cY M/\(∀ x,NQ n E x<->NQ n (yS M) x)/\E.length=M.length:=by
 have hw:uA M=n:=by
  cases M with
  | nil=>exact (h0 rfl).symm
  | cons a r=>exact h a (List.mem_cons_self ..)
 have:=zH h (Nat.le_refl n);refine ⟨_,_,this.ech,by unfold cY;rw [hw],fun x=>this.ker n lR x,by rw [sH,this.len]⟩
def Wid (n:Nat) (M:List (List Rat)):Prop:=∀ a∈M,a.length=n
theorem aCQ {n:Nat} {M:List (List Rat)} (h:Wid n M):∃ (E:List Fn) (piv:List Nat),EG E piv n/\piv.length=cY M/\(∀ x,NQ n E x<->NQ n (yS M) x)/\E.length=M.length:=by
 by_cases h0:M=[]
 ·subst h0
  refine ⟨[],[],⟨lR,List.Pairwise.nil,fun p hp=>(by cases hp),fun t p a h=>by simp at h,fun t p i a h=>by simp at h,fun t p a h=>by simp at h,fun i a h hi j hj=>by simp at h⟩,rfl,fun x=>Iff.rfl,rfl⟩
 ·exact aC2 h fun e=>absurd e h0
theorem aHr {n:Nat} {M:List (List Rat)} (h:Wid n M):cY M<=n:=by
 obtain ⟨E,piv,h1,h2,_,_⟩:=aCQ h;have:=h1.free_len;omega
theorem aHq {n:Nat} {M:List (List Rat)} (h:Wid n M):cY M=n<->∀ x,NQ n (yS M) x->∀ j,j<n->x j=0:=by
 obtain ⟨E,piv,h1,h2,h3,_⟩:=aCQ h;rw [<-h2,BT h1];exact ⟨fun g x hx=>g x ((h3 x).2 hx),fun g x hx=>g x ((h3 x).1 hx)⟩
end
section
namespace Ls
variable (L:Ls)
variable {L}
theorem SolK.q_nn {k:Nat} {u:Fn} (hp:L.Pos) (h:L.SolK k u):0<=bB L.n (L.R k) u:=by
 rw [h.dot u];exact yX fun j hj=>by
  have:=hp.nn (fun j=>bB L.n (L.R j) u) j hj;grind
theorem XM {k:Nat} {u:Fn} (hp:L.Pos):∀ j,j<L.K->0<=(if j=k then 0 else L.w j*(bB L.n (L.R j) u*bB L.n (L.R j) u)):=fun j hj=>by
 by_cases e:j=k
 ·rw [if_pos e];exact Rat.le_refl
 ·rw [if_neg e];exact hp.nn (fun j=>bB L.n (L.R j) u) j hj
theorem SolK.spr_nn {k:Nat} {u:Fn} (hp:L.Pos) (hk:k<L.K) (h:L.SolK k u):0<=L.spr k u:=by
 have h1:=h.rest hk;have h2:=yX (XM (k:=k) (u:=u) hp);have h3:=h.q_nn hp;have h4:=aDN hp hk;have h5:=hp k hk;unfold spr;generalize bB L.n (L.R k) u=p at *;generalize aO L.K (fun j=>if j=k then 0 else L.w j*(bB L.n (L.R j) u*bB L.n (L.R j) u))=t at *;generalize L.w k=w at *;generalize 1 / w=v at *;rcases Rat.le_total (a:=p) (b:=v) with K5 | K5
 ·grind
 ·by_cases h0:p=v
  ·grind
  ·have aW:0<p-v:=by grind
   have hvp:0<v:=by
    rcases Rat.le_total (a:=v) (b:=0) with hv | hv
    ·have:=Rat.mul_nonneg (Rat.le_of_lt h5) (show 0<=-v by grind)
     grind
    ·by_cases tI:v=0
     ·rw [tI] at h4;grind
     ·grind
   have hpp:0<p:=by grind
   have h6:0<w*p*(p-v):=Rat.mul_pos (Rat.mul_pos h5 hpp) aW;have e:w*p*(p-v)=w*(p*p)-(w*v)*p:=by grind
   rw [e,h4,Rat.one_mul] at h6;generalize w*(p*p)=s at *;grind
theorem SolK.spr_zero {k:Nat} {u:Fn} (hp:L.Pos) (hk:k<L.K) (h:L.SolK k u) (h0:L.spr k u=0):(∀ j,j<L.K->j≠k->bB L.n (L.R j) u=0)/\bB L.n (L.R k) u≠0:=by
 have h1:=h.rest hk;have h4:=aDN hp hk;have h5:=hp k hk;unfold spr at h0;have X3:bB L.n (L.R k) u=1 / L.w k:=by grind
 have hz:aO L.K (fun j=>if j=k then 0 else L.w j*(bB L.n (L.R j) u*bB L.n (L.R j) u))=0:=by
  have h6:L.w k*(bB L.n (L.R k) u*bB L.n (L.R k) u)=bB L.n (L.R k) u:=by
   rw [X3];grind
  grind
 constructor
 ·intro j hj cP
  have:=qT (XM (k:=k) (u:=u) hp) hz j hj;rw [if_neg cP] at this;have h7:=hp j hj;rcases Rat.mul_eq_zero.1 this with h8 | h8
  ·rw [h8] at h7;exact absurd h7 Rat.lt_irrefl
  ·rcases Rat.mul_eq_zero.1 h8 with h9 | h9<;>exact h9
 ·rw [X3]
  intro e;rw [e,Rat.mul_zero] at h4;exact absurd h4 (by decide)
theorem SolK.res_zero {k:Nat} {u a:Fn} (hp:L.Pos) (hk:k<L.K) (h:L.SolK k u) (h0:L.spr k u=0) (ha:L.Sol a):L.res a k=0:=by
 obtain ⟨h1,h2⟩:=h.spr_zero hp hk h0;have h3:=ha.orth u;have h4:aO L.K (fun j=>L.w j*L.res a j*bB L.n (L.R j) u)=L.w k*L.res a k*bB L.n (L.R k) u:=
  iN hk fun j hj cP=>by rw [h1 j hj cP,Rat.mul_zero]
 rw [h4] at h3;have h5:=hp k hk;rcases Rat.mul_eq_zero.1 h3 with h6 | h6
 ·rcases Rat.mul_eq_zero.1 h6 with h7 | h7
  ·rw [h7] at h5;exact absurd h5 Rat.lt_irrefl
  ·exact h7
 ·exact absurd h6 h2
end Ls
end
section
open Go.ChangeShapes Go.WideShapes Go.ChangeAt Go.RowKit
attribute [local go_sem ↓] aE
attribute [local go_sem] aK aH aM aY
theorem aGW (A:OA) (n c:Nat) (M:List (List Rat)) (w:Wo) (hR:jZ w w.heap.size A n M) (hn:n<=1000000) :
    Calls Tryz.prog 125 #[.slice A n c] w fun e w'=>e=.returned (.int .i64 (uA M:Int))/\w=w':=by
 cases M with
 | nil=>
  have h0:n=0:=hR.len.symm;subst h0;clear hR;go_enter Tryz.func125,Tryz.ntmps125
  go_wp2_with fail
  go_ret;exact ⟨rfl,rfl⟩
 | cons a r=>
  have hl:n=r.length+1:=hR.len.symm;have h0:0<n:=by omega
  obtain ⟨b,off,hA,hb⟩:=hR.form h0;subst hA;obtain ⟨h,hc,hq,-,-⟩:=hR.at_ (i:=0) (q:=a) rfl;have hw:uA (a::r)=h.n:=hq.len;rw [hw];obtain ⟨hA,hn2,M4⟩:=h;simp only at hc ⊢;rw [Nat.add_zero] at hc;have qL:=World.block_lt_of_cell? w _ hc;simp only at qL;have hnz:((n:Int) == 0)=false:=by simp;omega
  have hni:(0:Int)<(n:Int):=by omega
  have HW:=lH hw;clear hl hR hq hw;go_enter Tryz.func125,Tryz.ntmps125
  go_wp2_with fail
  go_ret;exact ⟨rfl,rfl⟩
theorem ZC {M:List (List Rat)} {N:Nat} (h:∀ a∈M,a.length=N):uA M<=N:=by
 cases M with
 | nil=>exact Nat.zero_le _
 | cons a r=>exact Nat.le_of_eq (h a (List.mem_cons_self ..))
theorem F2 (A:OA) (n c N b:Nat) (M:List (List Rat)) (w:Wo) (hR:jZ w w.heap.size A n M) (ok:RT M N b) :
    Calls Tryz.prog 86 #[.slice A n c] w fun e w'=>e=.returned (.int .i64 (cY M:Int))/\Below w.heap.size w w':=by
 have hn:n<=1000000:=by rw [<-hR.len];exact ok.len
 have HL:=lH hR.len;have H1:=lH (aGW A n c M w hR hn);have hwl:=ZC ok.wid;have H2:=lH (PE A n c (uA M) N b M w hR hn ok.wid ok.n hwl ok.bd (cV (MK hwl b) ok.sz));clear hR ok hwl;go_enter Tryz.func86,Tryz.ntmps86
 go_wp2_with fail
 refine H1.o.mono ?_;rintro e w' ⟨rfl,rfl⟩
 go_wp2_with fail
 refine H2.o.mono ?_;rintro e w1 ⟨bH,g,hs,v,rfl,-,hp⟩;obtain ⟨pA,pc,hv,-,-⟩:=hp.shape;subst hv;have bS:=lH bH;have SU:Hid ((lD M (uA M)).2.length=cY M):=lH rfl;clear hp bH;generalize (lD M (uA M)).2.length=rk at *
 go_wp2_with fail
 go_ret;exact ⟨by rw [<-SU.o];rfl,bS.o⟩
end
section
theorem QX {S:Nat->Nat->Bool} {b:Nat}:(List.range b).find? (fun a=>S a b)=none<->T9 S b=true:=by
 unfold T9;rw [List.find?_eq_none];simp
theorem YU (S:Nat->Nat->Bool):∀ n:Nat,(tS S n).2=I5 (T9 S) n
 | 0=>rfl
 | n+1=>by
  rw [G9,<-YU S n];rw [uX];cases h:(List.range n).find? (fun a=>S a n) with
  | none=>simp [QX.1 h]
  | some a=>
   have:T9 S n=false:=by
    cases hn:T9 S n with
    | false=>rfl
    | true=>rw [QX.2 hn] at h;cases h
   simp [this]
end
section
open Go.ChangeShapes Go.WideShapes Go.ChangeAt Go.RowKit
attribute [local go_sem ↓] aE
attribute [local go_sem] aK aH aM aY
def aQU (x:bE) (ms:List Mi) (w:Wo) (e:Ending) (w':Wo):Prop:=Below w.heap.size w w'/\∃ A c,e=.returned (.slice A ms.length c)/\jZ w' w'.heap.size A ms.length (aR x ms)/\ms.length<=c/\c<=maxLen
theorem BW (h:cE) (x:bE) (ok:cN x) (h8:x.nodes.length<=8) (g:Nat) (m:iZ) (y:Value) (A:OA) (n c:Nat) (ms:List Mi) (w:Wo) (r:cS w w.heap.size h x) (hg:aG w g 122 (m.cells y)) (hr:fG w w.heap.size m x) (hm:eG w w.heap.size A n ms) (hn:n<=64) (pY:∀ m∈ms,nV x m) :
    Calls Tryz.prog 82 #[.agg h.cells,.pointer (some ⟨g,0,none⟩),.slice A n c] w (aQU x ms w):=by
 have K0:Below w.heap.size w (w.alloc (.cells h.cells 29)):=bA;have HK:=lH K0;have P0:=lH (aG.new w 29 h.cells);have HG:=lH (hg.bl K0);have HR:=lH (hr.up K0);have HX:=lH (r.up K0);have HM:=lH (hm.bm K0);have j_:Hid (ms.length=n):=lH hm.1;have cH:=lH ok;have HMK:=lH pY;have dW:Hid (w.heap.size<=(w.alloc (.cells h.cells 29)).heap.size):=lH K0.size;clear K0 hg hr hm r pY ok;obtain ⟨D0,r0,s0,D1,r1,s1,D2,r2,s2,D3,r3,s3,D4,r4,s4,D5,r5,s5⟩:=h;go_enter Tryz.func82,Tryz.ntmps82
 go_wp2_with fail
 generalize w.alloc (.cells (cE.cells ⟨D0,r0,s0,D1,r1,s1,D2,r2,s2,D3,r3,s3,D4,r4,s4,D5,r5,s5⟩) 29)=W at *
 go_loopw [7,12] (fun v7 v12 wr=>∃ (k:Nat) (hs:List Hd),k<=n/\v12=.int .i64 k/\gF wr W.heap.size v7 hs ((aR x ms).take k)/\Below W.heap.size W wr) (fun _ v12 _=>n-(intOf v12).toNat)
 case atStart=>exact ⟨0,[],by omega,rfl,FV _ _,bR⟩
 case round=>
  obtain ⟨k,hs,hk,rfl,ho,hb⟩:=hrel;have HO:=lH ho;have HB:=lH hb;clear ho hb
  by_cases aW:k<n
  ·obtain ⟨mi,jS⟩:∃ mi,ms[k]?=some mi:=eO (by have:=j_.o;omega)
   have OJ:=lH (O8 (x:=x) jS);have tA:=lH (HMK.o mi (cO jS));have pS:=(HM.o.below HB.o lR).more HB.o.size;have U1:=pS.2.2 (by omega);obtain ⟨ab,ao,hA,oS,-⟩:=U1;subst hA;obtain ⟨a0,a1,a2,a3⟩:=pS.at_ jS;have fT:(k:Int)<(n:Int):=by omega
   have kF:=lZ k
   have qW:=kU k;have l_:=lN k;have jW:Hid (n-(k+1)<n-k):=lH (by omega);clear jS pS
   go_upto_region 5 with fail
   clear a0 a1 a2 a3 oS fT kF qW;have hz:Below wr.heap.size wr (wr.alloc (.cells #[.int .i64 mi.kind,.string mi.name,.string mi.txt,.int .i64 mi.wt] 57)):=bA;have nR:=lH (aG.new wr 57 #[.int .i64 mi.kind,.string mi.name,.string mi.txt,.int .i64 mi.wt]);replace HO:=lH (HO.o.keep hz);have fZ:Hid (Below W.heap.size W (wr.alloc (.cells #[.int .i64 mi.kind,.string mi.name,.string mi.txt,.int .i64 mi.wt] 57))):=lH (HB.o.tm hz);clear hz HB;generalize wr.alloc (.cells #[.int .i64 mi.kind,.string mi.name,.string mi.txt,.int .i64 mi.wt] 57)=wa at *;have P0w:=P0.o.bl fZ.o;obtain ⟨y0,y1,y2,y3,y4,y5,nf,nlt⟩:=a_ P0w;dsimp only at y0 y1 y2 y3 y4 y5;have x0:=nR.o.cell 0;have x1:=nR.o.cell 1;have x2:=nR.o.cell 2;have x3:=nR.o.cell 3;have xl:=nR.o.lt;clear P0w
   go_wp2_with fail
   refine (mW _ x cH.o h8 g m y mi wa (HX.o.up fZ.o) (HG.o.bl fZ.o) (HR.o.up fZ.o) tA.o.1 tA.o.2).mono ?_;rintro e w5 ⟨eD,gc,u,rfl,hq,hv⟩;clear y0 y1 y2 y3 y4 y5 nf nlt x0 x1 x2 x3 xl;have dX:=lH (fZ.o.tm eD);replace HO:=lH (HO.o.keep eD);have HQ:=lH hq;clear eD hq hv fZ
   go_wp2_with fail
   refine (F6 g m y x cH.o h8 u (some ⟨gc,0,none⟩) (aI x) (aI x) (aS x mi).1 w5 (HG.o.bl dX.o) (HR.o.up dX.o) HQ.o rfl).mono ?_;rintro e w6 ⟨fQ,B6,v6,us,hB6,rfl,bF⟩;have fV:=lH (dX.o.tm fQ);replace HO:=lH (HO.o.keep fQ);have HW6:=lH bF;obtain ⟨A',c',X1,-⟩:=bF.rd;subst X1;have J1:Hid (W.heap.size<=w6.heap.size):=lH fV.o.size;clear fQ hB6 bF dX HQ
   go_wp2_with (at_builtin;refine xE rfl (.tmp 16) (.tmp 23) _ rfl W.heap.size Tryz.underlying92 u7 hs _ rfl HO.o B6 _ us _ HW6.o rfl ?k1 J1.o ?_)
   case k1=>rw [jP];omega
   intro v' w8 hs' hrows e_;have oY:=lH hrows;have dF:=lH (fV.o.trans e_);clear hrows e_
   go_wp2_with fail
   go_roundw
   case rel=>exact ⟨k+1,hs',aW,aQ l_.o,by rw [OJ.o];exact oY.o,dF.o⟩
   case measure=>exact jW.o
  ·have lS:k=n:=by omega
   have rX:(aR x ms).length=n:=by unfold aR;rw [lB];exact j_.o
   have Y2:Hid (gF wr W.heap.size u7 hs (aR x ms)):=lH (by
    have h:=HO.o;rw [nW (by omega)] at h;exact h)
   have fT:¬(k:Int)<(n:Int):=by omega
   obtain ⟨A',c',hv,jY,h1,h2⟩:=Y2.o.rd;rw [rX] at hv jY h1;subst hv;have LX:=lH jY;clear jY rX
   go_wp2_with fail
   go_ret;exact ⟨HK.o.trans (HB.o.mono dW.o),A',c',by rw [j_.o];rfl,by rw [j_.o];exact LX.o,by rw [j_.o];exact h1,h2⟩
theorem aCP {x:bE} (ok:cN x) (h8:x.nodes.length<=8) {ms:List Mi} (hl:ms.length<=64) (hm:∀ m∈ms,nV x m):RT (aR x ms) (aA x).length 301:=by
 obtain ⟨h1,h2⟩:=gT ok hm;have hf:=fY ok h8;refine ⟨h1,fun a ha q hq=>Nat.succ_le_succ (h2 a ha q hq),?_,by unfold aR;rw [lB];omega,by omega⟩;exact cV (Nat.mul_le_mul (Nat.pow_le_pow_right (by decide) hf) lR) (by decide)
def qE (x:bE) (ms:List Mi):Int×Int×Int:=if b6 x ms=0 then ((cY (aR x ms):Int),((aA x).length:Int),0) else (0,0,b6 x ms)
theorem KN (h:cE) (x:bE) (h8:x.nodes.length<=8) (A:OA) (n c:Nat) (ms:List Mi) (w:Wo) (r:cS w w.heap.size h x) (hm:eG w w.heap.size A n ms) (hz:∀ m∈ms,m.txt.size<=maxLen) (hn:n<=9223372036854775807) (ht:dA w) :
    Calls Tryz.prog 78 #[.agg h.cells,.slice A n c] w fun e w'=>e=.returned (.tuple #[.int .i64 (qE x ms).1,.int .i64 (qE x ms).2.1,.int .i64 (qE x ms).2.2])/\Below w.heap.size w w':=by
 have K0:Below w.heap.size w (w.alloc (.cells h.cells 29)):=bA;have HK:=lH K0;have P0:=lH (aG.new w 29 h.cells);have HX:=lH (r.up K0);have HM:=lH (hm.bm K0);have j_:Hid (ms.length=n):=lH hm.1;have dW:Hid (w.heap.size<=(w.alloc (.cells h.cells 29)).heap.size):=lH K0.size;have DO:=lH (mS h x A n c ms (w.alloc (.cells h.cells 29)) HX.o HM.o hz hn (ht.up K0));have p5:Hid (qE x ms=if b6 x ms=0 then ((cY (aR x ms):Int),((aA x).length:Int),0) else (0,0,b6 x ms)):=lH rfl;have tA:Hid (b6 x ms=0->cN x/\ms.length<=64/\∀ m∈ms,nV x m):=lH iU;generalize qE x ms=ra at *;generalize b6 x ms=ck at *;clear K0 hm r hz ht;obtain ⟨D0,r0,s0,D1,r1,s1,D2,r2,s2,D3,r3,s3,D4,r4,s4,D5,r5,s5⟩:=h;obtain ⟨y0,y1,y2,y3,y4,y5,nf,nlt⟩:=a_ P0.o;dsimp only at y0 y1 y2 y3 y4 y5;go_enter Tryz.func78,Tryz.ntmps78
 go_wp2_with fail
 generalize w.alloc (.cells (cE.cells ⟨D0,r0,s0,D1,r1,s1,D2,r2,s2,D3,r3,s3,D4,r4,s4,D5,r5,s5⟩) 29)=W at *;refine DO.o.mono ?_;rintro e w1 ⟨rfl,bH⟩;have bS:=lH bH;clear bH y0 y1 y2 y3 y4 y5 nf nlt DO
 by_cases iX:ck=0
 ·subst iX
  obtain ⟨ok,hl,jS⟩:=tA.o rfl;have cH:=lH ok;have HL:=lH hl;have q_:=lH jS;have HRE:Hid (ra=((cY (aR x ms):Int),((aA x).length:Int),0)):=lH (by rw [p5.o,if_pos rfl]);clear ok hl jS tA p5;have P1:=P0.o.bl bS.o;obtain ⟨y0,y1,y2,y3,y4,y5,nf,nlt⟩:=a_ P1;dsimp only at y0 y1 y2 y3 y4 y5;clear P1
  go_wp2_with fail
  refine (jI _ x cH.o h8 w1 (HX.o.up bS.o)).mono ?_;rintro e w2 ⟨bL,g,m,A7,n7,c7,rfl,hg,b_,jY,-⟩;have bW:=lH (bS.o.tm bL);have HG:=lH b_;have HR:=lH jY;have DM:Hid ((aA x).length=m.n6):=lH (by rw [<-gU];exact jY.r6.len);clear bL hg b_ jY y0 y1 y2 y3 y4 y5 nf nlt;have P2:=P0.o.bl bW.o;obtain ⟨y0,y1,y2,y3,y4,y5,nf,nlt⟩:=a_ P2;dsimp only at y0 y1 y2 y3 y4 y5;have g6:w2.cell? ⟨g,6,none⟩=some (.slice m.A6 m.n6 m.c6):=HG.o.cell 6;have gl:=HG.o.lt;have bK:=lH (aD (Below.refl w2.heap.size w2));have WF:=lH (HM.o.bm bW.o);have dI:=lH (HX.o.up bW.o);clear P2
  go_upto_region 5 with fail
  refine aJ (S:=fun w'=>Below w2.heap.size w2 w') 12 _ (by kernel_rfl) (by kernel_rfl) rfl (aD bR) (fun hHeld=>?_);simp only [lA,List.take_zero];refine aL 0 rfl ?_;refine aL 1 rfl ?_;refine aL 2 rfl ?_;refine aL 5 rfl ?_;refine aL 6 rfl ?_;refine aL 7 rfl ?_;refine aL 8 rfl ?_;refine aL 9 rfl ?_;refine aU 3 (by kernel_rfl) rfl (fun K hK=>?_);go_simp;refine (BW _ x cH.o h8 g m _ A n c ms w2.drew (dI.o.up bK.o) (HG.o.bl bK.o) (HR.o.up bK.o) (WF.o.bm bK.o) (by have:=HL.o;have:=j_.o;omega) q_.o).mono ?_;rintro e w8 ⟨e_,A8,c8,rfl,SN,-⟩;have dF:Hid (Below w2.heap.size w2 w8):=lH (bK.o.tm e_);have D_:=lH SN;clear e_ SN;go_simp;refine hK.out _ _ ?_ (fun hHeld=>?_)
  ·exact dF.o
  clear hK K
  try simp only [Act.put,bP,bO,bN]
  refine aU 4 (by kernel_rfl) rfl (fun K hK=>?_);go_simp;refine (F2 A8 ms.length c8 _ _ _ w8 D_.o (aCP cH.o h8 HL.o q_.o)).mono ?_;rintro e w9 ⟨rfl,gE⟩;have cQ:Hid (Below w2.heap.size w2 w9):=lH (dF.o.tm gE);clear gE;go_simp;refine hK.out _ _ ?_ (fun hHeld=>?_)
  ·exact cQ.o
  clear hK K
  try simp only [Act.put,bP,bO,bN]
  refine aL 10 rfl ?_;refine aL 11 rfl ?_;refine wpAnyH_done (by kernel_rfl) ?_ _;refine aP (by rfl) ?_;clear hHeld;clear y0 y1 y2 y3 y4 y5 nf nlt g6 gl
  go_wp2_with fail
  refine bodyPost_ret (v:=.tuple #[.int .i64 (cY (aR x ms):Int),.int .i64 (m.n6:Int),.int .i64 0]) (by simp [results,Tryz.results78,go_sem]) rfl ⟨by rw [HRE.o,DM.o],HK.o.trans ((bW.o.tm cQ.o).mono dW.o)⟩
 ·have aEF:(ck != 0)=true:=by simp [iX]
  have HRE:Hid (ra=(0,0,ck)):=lH (by rw [p5.o,if_neg iX])
  go_wp2_with fail
  refine bodyPost_ret (v:=.tuple #[.int .i64 0,.int .i64 0,.int .i64 ck]) (by simp [results,Tryz.results78,go_sem]) rfl ⟨by rw [HRE.o],HK.o.trans (bS.o.mono dW.o)⟩
end
section
open Go.ChangeShapes Go.WideShapes Go.ChangeAt Go.RowKit
theorem aHv {w0 w':Wo} {base:Nat} {v:Value} {hs:List Hd} {M:List (List Rat)} (hb:Below w0.heap.size w0 w') (hl:hs.length=M.length)
    (hr:∀ (i:Nat) (h:Hd) (q:List Rat),hs[i]?=some h->M[i]?=some q->iF w0 w0.heap.size h.A h.n q/\h.n<=h.c/\h.c<=maxLen)
    (own:bJ oX w' base 93 1 v hs.length (hs.map Hd.val)):∃ A c,v=.slice A M.length c/\jZ w' w'.heap.size A M.length M/\M.length<=c/\c<=maxLen:=by
 obtain ⟨A,c,hv,jY,h1,h2,h3⟩:=sL own.own;rw [hl] at hv jY h1;exact ⟨A,c,hv,⟨hs,hl,rfl,jY,fun i h q hh hq=>⟨((hr i h q hh hq).1.below hb lR).more hb.size,(hr i h q hh hq).2⟩⟩,h1,h2⟩
theorem G6 {α:Type} {l:List α} {k:Nat} {x:α} (h:x∈eX l k):x∈l:=by
 unfold eX at h;rcases List.mem_append.1 h with h | h
 ·exact List.mem_of_mem_take h
 ·exact List.mem_of_mem_drop h
end
section
open Go.ChangeShapes Go.WideShapes Go.ChangeAt Go.RowKit
attribute [local go_sem ↓] aE
attribute [local go_sem] aK aH aM aY
def qO (M:List (List Rat)):List Nat:=(List.range M.length).filter fun k=>decide (cY (eX M k)<cY M)
theorem G7 {M:List (List Rat)} {k:Nat}:((List.range (k+1)).filter fun k=>decide (cY (eX M k)<cY M))=((List.range k).filter fun k=>decide (cY (eX M k)<cY M))++(if cY (eX M k)<cY M then [k] else []):=by
 rw [List.range_succ,List.filter_append];congr 1
 by_cases h:cY (eX M k)<cY M
 ·simp [h]
 ·simp [h]
theorem aMz {M:List (List Rat)} {N b:Nat} (h:RT M N b) (k:Nat):RT (eX M k) N b:=by
 refine ⟨fun a ha=>h.wid a (G6 ha),fun a ha=>h.bd a (G6 ha),h.sz,?_,h.n⟩;refine cV ?_ h.len;unfold eX;rw [iC,jP,EI];have:=h.len;omega
end
section
open Go.ChangeShapes Go.WideShapes Go.ChangeAt Go.RowKit
theorem aFg {M:List (List Rat)} {k:Nat}:k∈qO M<->k<M.length/\cY (eX M k)<cY M:=by
 unfold qO;rw [List.mem_filter,List.mem_range,decide_eq_true_eq]
def DS (n a b:Nat):List Rat:=((jX n).set a 1).set b (-1)
def FS (x:bE) (M:List (List Rat)) (a b:Nat):Bool:=decide ((xZ x).getD a 0=(xZ x).getD b 0) && decide (cY (M++[f_ x (DS (aI x) a b)])=cY M)
def YT (x:bE) (M:List (List Rat)):List Nat:=(tS (FS x M) (aI x)).1
end
section
section
variable {x:bE} {ms:List Mi}
end
section
variable {x:bE} {ms:List Mi}
end
section
variable {x:bE} {ms:List Mi} {by_:Int}
end
section
variable {x:bE} {ms:List Mi}
end
theorem LG {x:bE} {ms:List Mi} (ok:cN x) (hm:∀ m∈ms,nV x m) (tQ:∀ m∈ms,1<=m.wt):mI x ms<->cY (aR x ms)=(aA x).length:=by
 rw [uV tQ];have hw:Wid (aA x).length (aR x ms):=(gT ok hm).1;rw [aHq hw];refine forall_congr' fun c=>?_;have:NQ (aA x).length (yS (aR x ms)) c<->∀ k,k<ms.length->bB (aA x).length ((fM x ms).R k) c=0:=by
  rw [qI]
  constructor
  ·intro h k hk
   obtain ⟨r,hr⟩:∃ r,(aR x ms)[k]?=some r:=eO (by rw [lI];exact hk);have:=h k r hr;show bB _ (vf ((aR x ms).getD k [])) c=0;rw [eY,hr];exact this
  ·intro h k r hr
   have:=h k (by have:=(dP.1 hr).1;rwa [lI] at this);rw [show (fM x ms).R k=vf ((aR x ms).getD k []) from rfl,eY,hr] at this;exact this
 rw [this]
end
section
open Go.ChangeShapes Go.WideShapes Go.ChangeAt Go.RowKit
theorem aCg {x:Int} (h1:-9223372036854775808<=x) (h2:x<=9223372036854775807):IntKind.i64.wrap x=x:=Go.IntWalk.i64_in _ (by omega)
theorem MU {c:Bool} {p q:Prop} (h:c=true) (hp:p):if c=true then p else q:=by rw [if_pos h];exact hp
theorem Y0.snoc {w:Wo} {hs:List Hd} {M:List (List Rat)} (h:Y0 w hs M) {z:Hd} {q:List Rat} (hz:iF w w.heap.size z.A z.n q/\z.n<=z.c/\z.c<=maxLen):Y0 w (hs++[z]) (M++[q]):=by
 refine ⟨by rw [iC,iC,h.1];rfl,fun i a p hh hq=>?_⟩
 by_cases hi:i<M.length
 ·rw [xQ hi] at hq
  rw [xQ (by rw [h.1];exact hi)] at hh;exact h.2 _ _ _ hh hq
 ·rw [AZ (by omega)] at hq
  rw [AZ (by rw [h.1];omega),h.1] at hh;have DG:=(dP.1 hq).1;rw [List.length_singleton] at DG;have:i-M.length=0:=by omega
  rw [this] at hq hh;simp at hq hh;subst hq;subst hh;exact hz
theorem Y0.rdM {w0 w':Wo} {base:Nat} {v:Value} {hs:List Hd} {M:List (List Rat)} (h:Y0 w0 hs M) (hb:Below w0.heap.size w0 w') (own:bJ oX w' base 93 1 v hs.length (hs.map Hd.val)):∃ A c,v=.slice A M.length c/\jZ w' w'.heap.size A M.length M/\M.length<=c/\c<=maxLen:=aHv hb h.1 h.2 own
theorem Y0.rdM2 {w0 w':Wo} {base:Nat} {A:OA} {n c:Nat} {hs:List Hd} {M:List (List Rat)} (h:Y0 w0 hs M) (hb:Below w0.heap.size w0 w') (own:bJ oX w' base 93 1 (.slice A n c) hs.length (hs.map Hd.val)):jZ w' w'.heap.size A n M/\n<=c/\c<=maxLen:=by
 obtain ⟨A',c',e,h1,h2,h3⟩:=h.rdM hb own;injection e with e1 e2 e3;subst e1;subst e2;subst e3;exact ⟨h1,h2,h3⟩
end
section
open Go.ChangeShapes Go.WideShapes Go.ChangeAt Go.RowKit
attribute [local go_sem ↓] aE
attribute [local go_sem] aK aH aM aY
def aHJ (x:bE) (ms:List Mi):Bool:=decide ((qE x ms).2.2=0) && decide ((qE x ms).1=(qE x ms).2.1)
theorem aHI (h:cE) (x:bE) (h8:x.nodes.length<=8) (A:OA) (n c:Nat) (ms:List Mi) (w:Wo) (r:cS w w.heap.size h x) (hm:eG w w.heap.size A n ms) (hz:∀ m∈ms,m.txt.size<=maxLen) (hn:n<=9223372036854775807) (ht:dA w) :
    Calls Tryz.prog 39 #[.agg h.cells,.slice A n c] w fun e w'=>e=.returned (.tuple #[.bool (aHJ x ms),.int .i64 (qE x ms).2.2])/\Below w.heap.size w w':=by
 have K0:Below w.heap.size w (w.alloc (.cells h.cells 29)):=bA;have HK:=lH K0;have P0:=lH (aG.new w 29 h.cells);have dW:Hid (w.heap.size<=(w.alloc (.cells h.cells 29)).heap.size):=lH K0.size;have SU:=lH (KN h x h8 A n c ms (w.alloc (.cells h.cells 29)) (r.up K0) (hm.bm K0) hz hn (ht.up K0));have HOB:Hid (aHJ x ms=(decide ((qE x ms).2.2=0) && decide ((qE x ms).1=(qE x ms).2.1))):=lH rfl;generalize aHJ x ms=ob at *;generalize qE x ms=ra at *;obtain ⟨ra1,ra2,ra3⟩:=ra;dsimp only at SU HOB ⊢;clear K0 hm r hz ht;obtain ⟨D0,r0,s0,D1,r1,s1,D2,r2,s2,D3,r3,s3,D4,r4,s4,D5,r5,s5⟩:=h;obtain ⟨y0,y1,y2,y3,y4,y5,nf,nlt⟩:=a_ P0.o;dsimp only at y0 y1 y2 y3 y4 y5;go_enter Tryz.func39,Tryz.ntmps39
 go_wp2_with fail
 generalize w.alloc (.cells (cE.cells ⟨D0,r0,s0,D1,r1,s1,D2,r2,s2,D3,r3,s3,D4,r4,s4,D5,r5,s5⟩) 29)=W at *;refine SU.o.mono ?_;rintro e w1 ⟨rfl,bH⟩;have bS:=lH (HK.o.trans (bH.mono dW.o));clear bH y0 y1 y2 y3 y4 y5 nf nlt SU
 by_cases h3:ra3=0
 ·subst h3
  by_cases h1:ra1=ra2
  ·subst h1
   go_wp2_with fail
   refine bodyPost_ret (v:=.tuple #[.bool true,.int .i64 0]) (by simp [results,Tryz.results39,go_sem]) rfl ⟨by rw [HOB.o];simp,bS.o⟩
  ·have hb:(ra1 == ra2)=false:=by simpa using h1
   go_wp2_with fail
   refine bodyPost_ret (v:=.tuple #[.bool false,.int .i64 0]) (by simp [results,Tryz.results39,go_sem]) rfl ⟨by rw [HOB.o,decide_eq_false h1];simp,bS.o⟩
 ·have hb:(ra3 == 0)=false:=by simpa using h3
  go_wp2_with fail
  refine bodyPost_ret (v:=.tuple #[.bool false,.int .i64 ra3]) (by simp [results,Tryz.results39,go_sem]) rfl ⟨by rw [HOB.o,decide_eq_false h3];simp,bS.o⟩
def aK2 (x:bE) (ms:List Mi) (w:Wo) (e:Ending) (w':Wo):Prop:=Below w.heap.size w w'/\((b6 x ms≠0/\e=.returned (.tuple #[.slice none 0 0,.int .i64 (b6 x ms)]))\/(b6 x ms=0/\∃ A c,e=.returned (.tuple #[.slice A (qO (aR x ms)).length c,.int .i64 0])/\nL w' w'.heap.size A (qO (aR x ms)).length (dZ (qO (aR x ms)))))
def pN (M:List (List Rat)) (k:Nat):List Nat:=(List.range k).filter fun k=>decide (cY (eX M k)<cY M)
theorem aAX (M:List (List Rat)) (k:Nat):(pN M k).length<=k:=by
 unfold pN;exact cV (List.length_filter_le _ _) (by rw [List.length_range];exact lR)
theorem aAW {M:List (List Rat)} {k:Nat} (h:cY (eX M k)<cY M):pN M (k+1)=pN M k++[k]:=by
 unfold pN;rw [G7,if_pos h]
theorem aFh {M:List (List Rat)} {k:Nat} (h:¬cY (eX M k)<cY M):pN M (k+1)=pN M k:=by
 unfold pN;rw [G7,if_neg h,List.append_nil]
theorem RC (h:cE) (x:bE) (h8:x.nodes.length<=8) (A:OA) (n c:Nat) (ms:List Mi) (w:Wo) (r:cS w w.heap.size h x) (hm:eG w w.heap.size A n ms) (hz:∀ m∈ms,m.txt.size<=maxLen) (hn:n<=9223372036854775807) (ht:dA w) :
    Calls Tryz.prog 44 #[.agg h.cells,.slice A n c] w (aK2 x ms w):=by
 have K0:Below w.heap.size w (w.alloc (.cells h.cells 29)):=bA;have HK:=lH K0;have P0:=lH (aG.new w 29 h.cells);have HX:=lH (r.up K0);have HM:=lH (hm.bm K0);have j_:Hid (ms.length=n):=lH hm.1;have dW:Hid (w.heap.size<=(w.alloc (.cells h.cells 29)).heap.size):=lH K0.size;have DO:=lH (mS h x A n c ms (w.alloc (.cells h.cells 29)) HX.o HM.o hz hn (ht.up K0));have HCP:Hid (∀ e w',aK2 x ms w e w'<->(Below w.heap.size w w'/\((b6 x ms≠0/\e=.returned (.tuple #[.slice none 0 0,.int .i64 (b6 x ms)]))\/(b6 x ms=0/\∃ A c,e=.returned (.tuple #[.slice A (qO (aR x ms)).length c,.int .i64 0])/\nL w' w'.heap.size A (qO (aR x ms)).length (dZ (qO (aR x ms))))))):=lH fun e w'=>Iff.rfl;have tA:Hid (b6 x ms=0->cN x/\ms.length<=64/\∀ m∈ms,nV x m):=lH iU;generalize b6 x ms=ck at *;clear K0 hm r hz ht
 obtain ⟨D0,r0,s0,D1,r1,s1,D2,r2,s2,D3,r3,s3,D4,r4,s4,D5,r5,s5⟩:=h;obtain ⟨y0,y1,y2,y3,y4,y5,nf,nlt⟩:=a_ P0.o;dsimp only at y0 y1 y2 y3 y4 y5;go_enter Tryz.func44,Tryz.ntmps44
 go_wp2_with fail
 generalize w.alloc (.cells (cE.cells ⟨D0,r0,s0,D1,r1,s1,D2,r2,s2,D3,r3,s3,D4,r4,s4,D5,r5,s5⟩) 29)=W at *;refine DO.o.mono ?_;rintro e w1 ⟨rfl,bH⟩;have bS:=lH bH;clear bH y0 y1 y2 y3 y4 y5 nf nlt DO
 by_cases iX:ck=0
 ·subst iX
  obtain ⟨ok,hl,jS⟩:=tA.o rfl;have cH:=lH ok;have HL:=lH hl;have q_:=lH jS;clear ok hl jS tA;have P1:=P0.o.bl bS.o;obtain ⟨y0,y1,y2,y3,y4,y5,nf,nlt⟩:=a_ P1;dsimp only at y0 y1 y2 y3 y4 y5;clear P1
  go_upto_region 4 with fail
  have bK:=lH (aD (Below.refl w1.heap.size w1));have HM1:=lH (HM.o.bm bS.o);have cJ:=lH (HX.o.up bS.o);refine aJ (S:=fun w'=>Below w1.heap.size w1 w') 5 _ (by kernel_rfl) (by kernel_rfl) rfl (aD bR) (fun hHeld=>?_);simp only [lA,List.take_zero];refine aL 0 rfl ?_;refine aL 1 rfl ?_;refine aL 3 rfl ?_;refine aU 2 (by kernel_rfl) rfl (fun K hK=>?_);go_simp;refine (jI _ x cH.o h8 w1.drew (cJ.o.up bK.o)).mono ?_;rintro e w2 ⟨bL,g,m,A7,n7,c7,rfl,hg,b_,jY,-⟩;have bW:Hid (Below w1.heap.size w1 w2):=lH (bK.o.tm bL);have HG:=lH b_;have HR:=lH jY;clear bL hg b_ jY;go_simp;refine hK.out _ _ ?_ (fun hHeld=>?_)
  ·exact bW.o
  clear hK K
  try simp only [Act.put,bP,bO,bN]
  refine aU 4 (by kernel_rfl) rfl (fun K hK=>?_);go_simp;refine (BW _ x cH.o h8 g m _ A n c ms w2 (cJ.o.up bW.o) HG.o HR.o (HM1.o.bm bW.o) (by have:=HL.o;have:=j_.o;omega) q_.o).mono ?_;rintro e w8 ⟨e_,A8,c8,rfl,SN,VD,M4⟩;have dF:Hid (Below w1.heap.size w1 w8):=lH (bW.o.tm e_);have D_:=lH SN;have N6:=lH VD;have N4:=lH M4;clear e_ SN VD M4;go_simp;refine hK.out _ _ ?_ (fun hHeld=>?_)
  ·exact dF.o
  clear hK K
  try simp only [Act.put,bP,bO,bN]
  refine wpAnyH_done (by kernel_rfl) ?_ _;refine aP (by rfl) ?_;clear hHeld;clear y0 y1 y2 y3 y4 y5 nf nlt HG HR bK HM1 cJ HM HX;have SU:=lH (aCP cH.o h8 HL.o q_.o);have HCR:Hid (qO (aR x ms)=pN (aR x ms) ms.length):=lH (by unfold qO pN aR;rw [lB]);have vE:Hid ((aR x ms).length=ms.length):=lH (by unfold aR;rw [lB]);generalize aR x ms=M at *;generalize ms.length=q at *
  go_wp2_with fail
  refine (F2 A8 q c8 _ _ _ w8 D_.o SU.o).mono ?_;rintro e w9 ⟨rfl,gE⟩;have cQ:Hid (Below w1.heap.size w1 w9):=lH (dF.o.tm gE);replace D_:=lH (D_.o.up gE);clear gE dF;have DN:=lH (info_parts GK);obtain ⟨i0,kC,oE,kK,lQ⟩:=DN.o;clear DN;have DN:=lH kC;have AR:=lH oE;have J0:=lH kK;have JZ:=lH lQ;clear kC oE kK lQ;obtain ⟨rk0,aLQ⟩:∃ rk0,cY M=rk0:=⟨_,rfl⟩;have aRF:=lH aLQ;rw [aLQ];clear aLQ
  go_wp2_with fail
  go_loopw [9,27] (fun v9 v27 wr=>∃ k:Nat,k<=q/\v27=.int .i64 k/\bJ rD wr w9.heap.size 3 1 v9 (pN M k).length (eW (pN M k))/\Below w9.heap.size w9 wr) (fun _ v27 _=>q-(intOf v27).toNat)
  case atStart=>exact ⟨0,by omega,rfl,dO _ _ _ _ _,bR⟩
  case round=>
   obtain ⟨k,hk,rfl,ho,hb⟩:=hrel;have HO:=lH ho;have HB:=lH hb;clear ho hb
   by_cases aW:k<q
   ·have hRM:=D_.o.below HB.o lR
    obtain ⟨ab,ao,hA8,-⟩:=hRM.form (by omega);subst hA8;have aQA:=hRM.more HB.o.size;obtain ⟨hs,CA,jY,hds⟩:=aQA.hds;have II:=lH CA;have LX:=lH jY;have HDS:=lH hds;clear hRM aQA CA jY hds;obtain ⟨q1,m_⟩:∃ q1,k+1+q1=q:=⟨q-(k+1),by omega⟩;have yK:=lH m_;have fT:(k:Int)<(q:Int):=by omega
    have kF:=lZ k
    have hkc:(k:Int)<=(c8:Int):=by have:=N6.o;omega
    have X7:(k:Int)+1<=(q:Int):=by omega
    have AW:(0:Int)<=(k:Int)+1:=by omega
    have hkw:IntKind.i64.wrap ((k:Int)+1)=(k:Int)+1:=aCg (by omega) (by have:=HL.o;omega);have aL_:((k:Int)+1).toNat=k+1:=by omega
    have qW:=kU k;have hqc:(q:Int)<=(c8:Int):=by have:=N6.o;omega
    have HQC:Hid (q<=c8):=lH N6.o;have AU:=lH (aD (Below.refl wr.heap.size wr));clear m_
    go_upto_region 10 with fail
    refine aJ (S:=fun w'=>Below wr.heap.size wr w') 9 _ (by kernel_rfl) (by kernel_rfl) rfl (aD bR) (fun hHeld=>?_);simp only [lA,List.take_zero];refine aL 0 rfl ?_;refine aL 1 rfl ?_;refine aL 2 rfl ?_;refine aL 4 rfl ?_;refine aL 5 rfl ?_;refine aL 6 rfl ?_;refine aL 7 rfl ?_;have RY:=lH (LX.o.tail HQC.o (i:=k+1) (by omega));generalize (if c8=k+1 then (some ⟨ab,ao,none⟩:OA) else some ⟨ab,ao+(k+1),none⟩)=A37 at *;refine aU 3 (by kernel_rfl) rfl (fun K hK=>?_);refine MU (by rfl) ?_;refine o8 (.const (.slice none 0 0)) (.tmp 32) 92 rfl wr.heap.size Tryz.underlying92 (.slice none 0 0) [] rfl (dO _ _ _ _ _) (some ⟨ab,ao,none⟩) k c8 (hs.take k) ?k1 rfl ?k2 ?k3 lR k ?k4 ?_
    case k1=>rw [jP];have:=II.o;omega
    case k2=>exact (LX.o.below AU.o lR).heads 0 k (by omega)
    case k3=>have:=HL.o;simp only [zW_];omega
    case k4=>rw [List.nil_append,jP];have:=II.o;omega
    intro A1 c1 w3 ho3 cR _;have HO3:Hid (bJ oX w3 wr.heap.size 93 1 (.slice A1 k c1) (hs.take k).length ((hs.take k).map Hd.val)):=lH ho3;have dR:Hid (Below wr.heap.size wr w3):=lH (AU.o.trans cR);clear ho3 cR;refine hK.out _ _ ?_ (fun hHeld=>?_)
    ·exact dR.o
    clear hK K
    try simp only [Act.put,bP,bO,bN]
    refine aU 8 (by kernel_rfl) rfl (fun K hK=>?_);refine MU (by rfl) ?_;refine o8 (.tmp 33) (.tmp 37) 92 rfl wr.heap.size Tryz.underlying92 (.slice A1 k c1) (hs.take k) rfl HO3.o A37 (q-(k+1)) (c8-(k+1)) (hs.drop (k+1)) ?k1 rfl ?k2 ?k3 dR.o.size (k+q1) ?k4 ?_
    case k1=>rw [EI];have:=II.o;omega
    case k2=>exact (RY.o.below dR.o lR).more dR.o.size
    case k3=>rw [jP];have:=II.o;have:=HL.o;omega
    case k4=>rw [iC,jP,EI];have:=II.o;have:=yK.o;omega
    intro A2 c2 w4 ho4 dU _;have aGe:Hid (Below wr.heap.size wr w4):=lH (dR.o.trans dU);have WE:=lH (((HDS.o.up aGe.o).cut k).rdM2 bR ho4).1;clear ho4 dU HO3;refine hK.out _ _ ?_ (fun hHeld=>?_)
    ·exact aGe.o
    clear hK K
    try simp only [Act.put,bP,bO,bN]
    refine wpAnyH_done (by kernel_rfl) ?_ _;refine aP (by rfl) ?_;have a1Z:q<=64:=HL.o;clear hHeld RY II LX HDS HQC yK dR hqc fT kF hkc X7 AW hkw aL_ qW;have l_:=lN k;have jW:Hid (q-(k+1)<q-k):=lH (by omega);have cU:=lH (HB.o.tm aGe.o);have HOX:=lH (HO.o.keep aGe.o)
    go_wp2_with fail
    refine (F2 A2 (k+q1) c2 _ _ _ w4 WE.o (aMz SU.o k)).mono ?_;rintro e w5 ⟨rfl,eD⟩;replace cU:=lH (cU.o.tm eD);replace HOX:=lH (HOX.o.keep eD);clear eD WE aGe HO HB AU
    by_cases hr:cY (eX M k)<cY M
    ·have HC:=lH (aAW hr)
     rw [aRF.o] at hr;generalize cY (eX M k)=r5 at *;have qJ:(r5:Int)<(rk0:Int):=by omega
     have tW:Hid (w9.heap.size<=w5.heap.size):=lH cU.o.size;have Y6:=lH (aAX M k);have HKQ:=lH aW
     go_upto_region 12 with fail
     clear qJ hr
     go_wp2_with (at_builtin;refine qA (S:=rD) rfl (.tmp 43) (.tmp 45) _ rfl w9.heap.size 3 i0 _ 1 8 Tryz.underlying30 DN.o AR.o J0.o JZ.o rfl (by omega) Y_ u9 _ (eW (pN M k)) rfl HOX.o rfl rfl ?k1 ?k2 ?k3 tW.o ?_)
     case k1=>simp [Value.oneCell',rD]
     case k2=>simp only [maxLen];have:=Y6.o;have:=HL.o;have:=HKQ.o;omega
     case k3=>have:=Y6.o;have:=HL.o;have:=HKQ.o;omega
     intro v' w7 bF hk7 _;have Y3:Hid (bJ rD w7 w9.heap.size 3 1 v' (pN M (k+1)).length (eW (pN M (k+1)))):=lH (by rw [HC.o,iC,List.length_singleton];unfold eW at *;rw [List.map_append];exact bF);have iM:Hid (Below w9.heap.size w9 w7):=lH ((cU.o.trans (((Below.refl _ w5).alloc lR _).mono cU.o.size)).trans hk7.low);clear bF hk7 HOX cU HC tW Y6
     go_wp2_with fail
     go_roundw
     case rel=>exact ⟨k+1,aW,aQ l_.o,Y3.o,iM.o⟩
     case measure=>exact jW.o
    ·have HC:=lH (aFh hr)
     rw [aRF.o] at hr;generalize cY (eX M k)=r5 at *;have qJ:¬(r5:Int)<(rk0:Int):=by omega
     go_wp2_with fail
     go_roundw
     case rel=>exact ⟨k+1,aW,aQ l_.o,by rw [HC.o];exact HOX.o,cU.o⟩
     case measure=>exact jW.o
   ·have lS:k=q:=by omega
    subst lS;have fT:¬(k:Int)<(k:Int):=by omega
    obtain ⟨A9,c9,hv,jY,h1,h2,h3⟩:=sL HO.o.own;subst hv;have LX:=lH jY;clear jY
    go_wp2_with fail
    go_ret2;rw [HCP.o];refine ⟨HK.o.trans ((bS.o.trans ((cQ.o.tm HB.o).mono bS.o.size)).mono dW.o),.inr ⟨by trivial,A9,c9,by rw [HCR.o];rfl,?_⟩⟩;rw [HCR.o];have h:=LX.o;unfold nL ints dZ;unfold eW at h;rw [List.map_map];exact h
 ·have aEF:(ck != 0)=true:=by simp [iX]
  go_wp2_with fail
  go_ret2;rw [HCP.o];exact ⟨HK.o.trans (bS.o.mono dW.o),.inl ⟨iX,rfl⟩⟩
section
variable {w w':Wo} {gc:Nat} {vs:List Rv} {q:List Rat}
end
theorem aIO {w:Wo} {gc n:Nat} {v:Rv} (hc:aG w gc 115 (fS (List.replicate n v)).toArray) (hv:dL w w.heap.size 0 v):Cf w gc (List.replicate n v) (jX n):=by
 refine ⟨⟨_,hc,?_⟩,by simp [jX],fun i p x hp hx=>?_⟩
 ·have hl:(fS (List.replicate n v)).length=n*4:=(d9 _).trans (by rw [o3])
  rw [jX,o3];exact nW (Nat.le_of_eq hl)
 ·unfold jX at hp
  rw [List.getElem?_replicate] at hp hx
  split at hp
  ·rename_i h
   rw [if_pos h] at hx;rw [<-Option.some.inj hp,<-Option.some.inj hx];exact hv
  ·cases hp
theorem RT.snoc {M:List (List Rat)} {N b:Nat} (h:RT M N b) {q:List Rat} (hl:q.length=N) (hq:∀ p∈q,bU p+1<=b) (hm:M.length<1000000):RT (M++[q]) N b:=by
 refine ⟨fun a ha=>?_,fun a ha=>?_,h.sz,by rw [iC,List.length_singleton];omega,h.n⟩
 ·rcases List.mem_append.1 ha with h1 | h1
  ·exact h.wid a h1
  ·rw [List.mem_singleton.1 h1];exact hl
 ·rcases List.mem_append.1 ha with h1 | h1
  ·exact h.bd a h1
  ·rw [List.mem_singleton.1 h1];exact hq
theorem aG3 {x:bE} {a b:Nat}:∀ p∈f_ x (DS (aI x) a b),bU p+1<=301:=fun p hp=>by
 unfold f_ at hp;obtain ⟨j,hj,rfl⟩:=List.mem_map.1 hp;have hl:(DS (aI x) a b).length=aI x:=by unfold DS jX;simp
 have hm:=cO (bI (l:=DS (aI x) a b) (by rw [hl];exact uS hj));have h0:bU (0:Rat)<=2:=dV 0 (by decide) (by decide);have h1:bU (1:Rat)<=2:=dV 1 (by decide) (by decide);have h2:bU (-1:Rat)<=2:=dV (-1) (by decide) (by decide);have key:∀ t∈DS (aI x) a b,t=0\/t=1\/t=-1:=fun t ht=>by
  unfold DS at ht;rcases List.mem_or_eq_of_mem_set ht with e | e
  ·rcases List.mem_or_eq_of_mem_set e with e | e
   ·unfold jX at e
    exact .inl (List.eq_of_mem_replicate e)
   ·exact .inr (.inl e)
  ·exact .inr (.inr e)
 rcases key _ hm with e | e | e<;>(rw [e];omega)
theorem aCL {w:Wo} {p7 p8 p9 g n c:Nat} {m:iZ} {y:Value} {x:bE} {A:OA} {M:List (List Rat)} (E:aFw w p7 p8 p9 g m y x A n c M) (ok:cN x) (h8:x.nodes.length<=8) (hk:RT M (aA x).length 301) (hn:n<=64) (a b:Nat) (ha:a<aI x) (hb:b<aI x) :
    Calls Tryz.prog 122 #[.int .i64 (a:Int),.int .i64 (b:Int),.pointer (some ⟨p7,0,none⟩),.pointer (some ⟨p8,0,none⟩),.pointer (some ⟨p9,0,none⟩)] w fun e w'=>e=.returned (.bool (FS x M a b))/\Below w.heap.size w w':=by
 have eN:Hid (aI x=m.n1):=lH (by rw [<-rV ok];exact E.rd.r1.len);have HE:=lH E;have cH:=lH ok;have SU:=lH hk;have hnb:m.n1<=8:=by rw [<-eN.o];exact cV (fR ok).2 h8
 have LZ:=lH hnb;rw [eN.o] at ha hb;have HA:=lH ha;have HB:=lH hb;have HS:Hid (FS x M a b=(decide ((xZ x).getD a 0=(xZ x).getD b 0) && decide (cY (M++[f_ x (DS (aI x) a b)])=cY M))):=lH rfl;generalize FS x M a b=sm at *;have z7:=E.b7.cell 0;have z7l:=E.b7.lt;clear E ok hk hnb ha hb;obtain ⟨A0,n0,c0,A1,n1,c1,A2,n2,c2,A3,n3,c3,A4,n4,c4,A5,n5,c5,A6,n6,c6⟩:=m;simp only at eN LZ HA HB;go_enter Tryz.func122,Tryz.ntmps122
 go_wp2_with fail
 refine (mT g ⟨A0,n0,c0,A1,n1,c1,A2,n2,c2,A3,n3,c3,A4,n4,c4,A5,n5,c5,A6,n6,c6⟩ y w HE.o.md).mono ?_;rintro e w1 ⟨rfl,rfl⟩
 go_wp2_with fail
 refine (kT n1 w (by have:=LZ.o;omega)).mono ?_;rintro e w1 ⟨bH,gc,v,rfl,hgc,QQ,hv⟩;have N6:=lH (aIO (n:=n1) QQ hv);have bS:=lH bH;have tZ:Hid (w.heap.size<=gc/\gc<w1.heap.size):=lH ⟨hgc,QQ.lt⟩;clear bH hgc QQ hv z7 z7l
 go_upto_region 2 with fail
 have hz:Below w1.heap.size w1 (w1.alloc (.cells #[.slice (some ⟨gc,0,none⟩) n1 n1,.bool false,.slice none 0 0,.bool false,.slice none 0 0] 117)):=bA;have N4:=lH (N6.o.up hz);have HF2:=lH (aG.new w1 117 #[.slice (some ⟨gc,0,none⟩) n1 n1,.bool false,.slice none 0 0,.bool false,.slice none 0 0]);have bW:=lH (bS.o.tm hz);have fI:Hid (gc≠w1.heap.size/\w.heap.size<=w1.heap.size):=lH ⟨by have:=tZ.o;omega,bS.o.size⟩;clear hz N6 bS;generalize hw2:w1.alloc (.cells #[.slice (some ⟨gc,0,none⟩) n1 n1,.bool false,.slice none 0 0,.bool false,.slice none 0 0] 117)=w2 at *;clear hw2;generalize w1.heap.size=gf at *;have JO:Hid ((jX n1).length=n1):=lH (by simp [jX]);have haI:(a:Int)<(n1:Int):=by have:=HA.o;omega
 have ha0:=lZ a
 have han:=kU a;have hbI:(b:Int)<(n1:Int):=by have:=HB.o;omega
 have AD:=lZ b
 have hbn:=kU b;refine aJ (S:=fun w'=>Below w.heap.size w w'/\aG w' gf 117 #[.slice (some ⟨gc,0,none⟩) n1 n1,.bool false,.slice none 0 0,.bool false,.slice none 0 0]) 11 _ (by kernel_rfl) (by kernel_rfl) rfl ⟨aD bW.o,HF2.o.drew⟩ (fun hHeld=>?_);simp only [lA,List.take_zero];refine cK 0 (v:=?_) rfl (by kernel_rfl) (fun _ _ _ h=>h) (by rfl) ?_ hHeld ?_;rotate_left 1
 ·intro w' hSw;obtain ⟨-,mU⟩:=hSw;have UW:=mU.cell 0;have CA:=mU.lt;clear mU;go_simp<;>with_reducible rfl
 try simp only [Act.put,bP,bO,bN]
 refine cK 1 (v:=?_) rfl (by kernel_rfl) (fun _ _ _ h=>h) (by rfl) ?_ hHeld ?_;rotate_left 1
 ·intro w' hSw;obtain ⟨-,mU⟩:=hSw;have UW:=mU.cell 0;have CA:=mU.lt;clear mU;go_simp<;>with_reducible rfl
 try simp only [Act.put,bP,bO,bN]
 refine cK 2 (v:=?_) rfl (by kernel_rfl) (fun _ _ _ h=>h) (by rfl) ?_ hHeld ?_;rotate_left 1
 ·intro w' hSw;obtain ⟨-,mU⟩:=hSw;have UW:=mU.cell 0;have CA:=mU.lt;clear mU;go_simp<;>with_reducible rfl
 try simp only [Act.put,bP,bO,bN]
 refine cK 3 (v:=?_) rfl (by kernel_rfl) (fun _ _ _ h=>h) (by rfl) ?_ hHeld ?_;rotate_left 1
 ·intro w' hSw;obtain ⟨-,mU⟩:=hSw;have UW:=mU.cell 0;have CA:=mU.lt;clear mU;go_simp<;>with_reducible rfl
 try simp only [Act.put,bP,bO,bN]
 refine cK 4 (v:=?_) rfl (by kernel_rfl) (fun _ _ _ h=>h) (by rfl) ?_ hHeld ?_;rotate_left 1
 ·intro w' hSw;obtain ⟨-,mU⟩:=hSw;have UW:=mU.cell 0;have CA:=mU.lt;clear mU;go_simp<;>with_reducible rfl
 try simp only [Act.put,bP,bO,bN]
 refine cK 5 (v:=?_) rfl (by kernel_rfl) (fun _ _ _ h=>h) (by rfl) ?_ hHeld ?_;rotate_left 1
 ·intro w' hSw;obtain ⟨-,mU⟩:=hSw;have UW:=mU.cell 0;have CA:=mU.lt;clear mU;go_simp<;>with_reducible rfl
 try simp only [Act.put,bP,bO,bN]
 refine aU 6 (by kernel_rfl) rfl (fun K hK=>?_);go_simp;refine (nT 1 w2.drew (by decide) (by decide)).mono ?_;rintro e w3 ⟨cR,v3,rfl,h3⟩;have hz3:Below w2.heap.size w2 w3:=(aD bR).trans cR;have SB:=lH (N4.o.up hz3);have yN:=lH (HF2.o.bl hz3);have dR:=lH (bW.o.tm hz3);have H3:Hid (dL w3 w3.heap.size 1 v3):=lH h3;clear cR h3 hz3 N4 HF2 bW;go_simp;refine hK.out _ _ ?_ (fun hHeld=>?_)
 ·exact ⟨dR.o,yN.o⟩
 clear hK K
 try simp only [Act.put,bP,bO,bN]
 refine aU 7 (by kernel_rfl) rfl (fun K hK=>?_);go_simp;refine (nT (-1) w3 (by decide) (by decide)).mono ?_;rintro e w4 ⟨dU,v4,rfl,h4⟩;have HC4:=lH (SB.o.up dU);have IS:=lH (yN.o.bl dU);have bK:=lH (dR.o.tm dU);have H4:Hid (dL w4 w4.heap.size (-1) v4):=lH h4;replace H3:=lH (H3.o.up dU);clear dU h4 SB yN dR;go_simp;refine hK.out _ _ ?_ (fun hHeld=>?_)
 ·exact ⟨bK.o,IS.o⟩
 clear hK K
 try simp only [Act.put,bP,bO,bN]
 refine cK 8 (v:=?_) rfl (by kernel_rfl) (fun _ _ _ h=>h) (by rfl) ?_ hHeld ?_;rotate_left 1
 ·intro w' hSw;obtain ⟨-,mU⟩:=hSw;have UW:=mU.cell 0;have CA:=mU.lt;clear mU;go_simp<;>with_reducible rfl
 try simp only [Act.put,bP,bO,bN]
 refine aU 9 (by kernel_rfl) rfl (fun K hK=>?_);obtain ⟨xe,-,e0,e1,e2,e3,el,ef⟩:=HC4.o.elem (j:=a) (by rw [JO.o];exact HA.o);go_simp;clear e0 e1 e2 e3 el ef;have HC5:=lH (HC4.o.put (j:=a) (by rw [JO.o];exact HA.o) H3.o);have H5:=lH (HC4.o.keep (j:=a) (x:=v3) (by rw [JO.o];exact HA.o) H4.o);have HF5:=lH (IS.o.far4 (i:=a) v3 (show gf≠gc by have:=fI.o;omega));have dX:=lH (kS (i:=a) (v:=v3) bK.o tZ.o.1);simp only [gB] at HC5 H5 HF5 dX;generalize (((w4.setCell ⟨gc,a*4,none⟩ _).setCell ⟨gc,a*4+1,none⟩ _).setCell ⟨gc,a*4+2,none⟩ _).setCell ⟨gc,a*4+3,none⟩ _=w5 at *;clear HC4 IS bK H3 H4;refine hK.out _ _ ?_ (fun hHeld=>?_)
 ·exact ⟨dX.o,HF5.o⟩
 clear hK K
 try simp only [Act.put,bP,bO,bN]
 refine cK 10 (v:=?_) rfl (by kernel_rfl) (fun _ _ _ h=>h) (by rfl) ?_ hHeld ?_;rotate_left 1
 ·intro w' hSw;obtain ⟨-,mU⟩:=hSw;have UW:=mU.cell 0;have CA:=mU.lt;clear mU;go_simp<;>with_reducible rfl
 try simp only [Act.put,bP,bO,bN]
 refine wpAnyH_done (by kernel_rfl) ?_ _;refine aP (by rfl) ?_;clear hHeld;have HL5:Hid (b<((jX n1).set a 1).length):=lH (by rw [lF,JO.o];exact HB.o);obtain ⟨xe,-,e0,e1,e2,e3,el,ef⟩:=HC5.o.elem (j:=b) (HL5.o)
 go_upto_region 3 with fail
 clear e0 e1 e2 e3 el ef;have HC6:=lH (HC5.o.put (j:=b) HL5.o H5.o);have HF6:=lH (HF5.o.far4 (i:=b) v4 (show gf≠gc by have:=fI.o;omega));have fV:=lH (kS (i:=b) (v:=v4) dX.o tZ.o.1);simp only [gB] at HC6 HF6 fV;generalize (((w5.setCell ⟨gc,b*4,none⟩ _).setCell ⟨gc,b*4+1,none⟩ _).setCell ⟨gc,b*4+2,none⟩ _).setCell ⟨gc,b*4+3,none⟩ _=w6 at *;clear HC5 HF5 dX H5 HL5;have HQ6:Hid (iF w6 w6.heap.size (some ⟨gc,0,none⟩) n1 (DS (aI x) a b)):=lH (by have h:=HC6.o.rdq;rw [lF,lF,JO.o] at h;rw [eN.o];exact h);clear HC6;replace HE:=lH (HE.o.up fV.o);obtain ⟨zs,IY⟩:∃ zs,xZ x=zs:=⟨_,rfl⟩;have yQ:=HE.o.rd.r1;simp only at yQ;obtain ⟨tb,to2,hA,UT,-⟩:=yQ.2 (by have:=HA.o;omega);subst hA;obtain ⟨ia,hia⟩:∃ ia,(xZ x).getD a 0=ia:=⟨_,rfl⟩;obtain ⟨ib,hib⟩:∃ ib,(xZ x).getD b 0=ib:=⟨_,rfl⟩
 have fa:=yQ.at_ (i:=a) (z:=ia) (by rw [<-hia,eY,jA (by rw [yQ.len];exact HA.o)];rfl);have fb:=yQ.at_ (i:=b) (z:=ib) (by rw [<-hib,eY,jA (by rw [yQ.len];exact HB.o)];rfl);rw [hia,hib] at HS;have z7:=HE.o.b7.cell 0;have z7l:=HE.o.b7.lt;have z8:=HE.o.b8.cell 0;have z8l:=HE.o.b8.lt;have z9:=HE.o.b9.cell 0;have z9l:=HE.o.b9.lt;have g1:w6.cell? ⟨g,1,none⟩=some (.slice (some ⟨tb,to2,none⟩) n1 c1):=HE.o.md.cell 1;have gl:=HE.o.md.lt;have k0:=HF6.o.cell 0;have k1:=HF6.o.cell 1;have k2:=HF6.o.cell 2;have k3:=HF6.o.cell 3;have k4:=HF6.o.cell 4;have kl:=HF6.o.lt;clear IY yQ hia hib;have iM:=lH (aD (Below.refl w6.heap.size w6));obtain ⟨hs,CA,jY,hds⟩:=HE.o.rm.hds;have II:=lH CA;have LX:=lH jY;have HDS:=lH hds;clear CA jY hds
 by_cases cP:ia=ib
 ·subst cP
  refine aJ (S:=fun w'=>Below w6.heap.size w6 w') 29 _ (by kernel_rfl) (by kernel_rfl) rfl (aD bR) (fun hHeld=>?_);simp only [lA,List.take_zero];refine aL 0 rfl ?_;refine aL 1 rfl ?_;refine aL 2 rfl ?_;refine aL 3 rfl ?_;refine aL 4 rfl ?_;refine aL 5 rfl ?_;refine aL 6 rfl ?_;refine aL 7 rfl ?_;refine aL 8 rfl ?_;refine aL 9 rfl ?_;refine aL 10 rfl ?_;refine aL 11 rfl ?_;refine aL 12 rfl ?_;refine aL 13 rfl ?_;refine aL 14 rfl ?_;refine aL 15 rfl ?_;refine aL 16 rfl ?_;refine aL 17 rfl ?_;refine aL 18 rfl ?_;refine aL 20 rfl ?_;refine aL 21 rfl ?_;refine aL 26 rfl ?_;refine aU 19 (by kernel_rfl) rfl (fun K hK=>?_);refine MU (by rfl) ?_
  refine o8 (.const (.slice none 0 0)) (.tmp 41) 92 rfl w6.heap.size Tryz.underlying92 (.slice none 0 0) [] rfl (dO _ _ _ _ _) A n c hs II.o rfl (LX.o.below iM.o lR) ?k3 lR n ?k4 ?_
  case k3=>simp only [zW_];omega
  case k4=>exact II.o
  intro Ap cp w7 ho7 gY _;have Y3:Hid (bJ oX w7 w6.heap.size 93 1 (.slice Ap n cp) hs.length (hs.map Hd.val)):=lH ho7;have aJp:Hid (Below w6.heap.size w6 w7):=lH (iM.o.trans gY);clear ho7 gY;refine hK.out _ _ ?_ (fun hHeld=>?_)
  ·exact aJp.o
  clear hK K
  try simp only [Act.put,bP,bO,bN]
  refine aU 22 (by kernel_rfl) rfl (fun K hK=>?_);go_simp;have HE7:=HE.o.up aJp.o;refine (F6 g ⟨A0,n0,c0,some ⟨tb,to2,none⟩,n1,c1,A2,n2,c2,A3,n3,c3,A4,n4,c4,A5,n5,c5,A6,n6,c6⟩ y x cH.o h8 ⟨false,none,0,0,false,none,0,0⟩ (some ⟨gc,0,none⟩) n1 n1 (DS (aI x) a b) w7 HE7.md HE7.rd (HQ6.o.up aJp.o) eN.o.symm).mono ?_;rintro e w8 ⟨e_,B8,v8,us,hB8,rfl,bF⟩;obtain ⟨Ar,cr,hv,-⟩:=bF.rd;subst hv;have rX:(f_ x (DS (aI x) a b)).length=(aA x).length:=nC;rw [rX] at bF ⊢;have oY:=lH (Y3.o.keep e_);have dF:Hid (Below w6.heap.size w6 w8):=lH (aJp.o.tm e_);have HW8:=lH bF;clear e_ hB8 bF HE7 rX Y3;go_simp;refine hK.out _ _ ?_ (fun hHeld=>?_)
  ·exact dF.o
  clear hK K
  try simp only [Act.put,bP,bO,bN]
  refine aU 23 (by kernel_rfl) rfl (fun K hK=>?_);go_simp;have hz9:Below w8.heap.size w8 (w8.alloc (.cells #[.slice Ar (aA x).length cr] 93)):=bA;have DL:=lH (oY.o.keep hz9);have HW9:=lH (HW8.o.keep hz9);have cQ:=lH (dF.o.tm hz9);have HL9:=lH (aG.new w8 93 #[.slice Ar (aA x).length cr]);clear hz9 oY HW8 dF;generalize w8.heap.size=gl9 at *;generalize w8.alloc (.cells #[.slice Ar (aA x).length cr] 93)=w9 at *;refine hK.out _ _ ?_ (fun hHeld=>?_)
  ·exact cQ.o
  clear hK K
  try simp only [Act.put,bP,bO,bN]
  refine aU 24 (by kernel_rfl) rfl (fun K hK=>?_);refine MU (by rfl) ?_;refine o8 (.tmp 42) (.tmp 46) 92 rfl w6.heap.size Tryz.underlying92 (.slice Ap n cp) hs rfl DL.o (some ⟨gl9,0,none⟩) 1 1 [⟨Ar,(aA x).length,cr⟩] rfl rfl ?k2 ?k3 ?k5 (n+1) ?k4 ?_
  case k2=>exact ⟨rfl,fun _=>⟨gl9,0,rfl,HL9.o.lt,fun j u hu=>by rw [Nat.zero_add,HL9.o.cell j];simpa [Hd.val] using hu⟩⟩
  case k3=>have:=II.o;omega
  case k5=>exact cQ.o.size
  case k4=>rw [iC,II.o];rfl
  intro Ax cx w10 ho10 qX aIg;have AU:Hid (Below w6.heap.size w6 w10):=lH (cQ.o.trans qX);have aO9:=HW9.o.blkS aIg;obtain ⟨Ay,cy,hv,hq,VD,M4,-⟩:=aO9.rd;injection hv with e1 e2 e3;subst e1;subst e3;rw [<-e2] at hq VD;have hd:=(HDS.o.up AU.o).snoc (z:=⟨Ar,(aA x).length,cr⟩) ⟨hq,VD,M4⟩;have R6:=lH (hd.rdM2 bR ho10).1;clear ho10 qX aIg aO9 hq VD M4 e2 hd HW9 DL HL9 cQ;refine hK.out _ _ ?_ (fun hHeld=>?_)
  ·exact AU.o
  clear hK K
  try simp only [Act.put,bP,bO,bN]
  refine aU 25 (by kernel_rfl) rfl (fun K hK=>?_);go_simp;refine (F2 Ax (n+1) cx _ _ _ w10 R6.o (SU.o.snoc nC aG3 (by have:=HE.o.rm.len;omega))).mono ?_;rintro e w11 ⟨rfl,mF⟩;have rB:Hid (Below w6.heap.size w6 w11):=lH (AU.o.tm mF);clear mF;obtain ⟨r1,yQ⟩:∃ r1,cY (M++[f_ x (DS (aI x) a b)])=r1:=⟨_,rfl⟩;rw [yQ] at HS ⊢;go_simp;refine hK.out _ _ ?_ (fun hHeld=>?_)
  ·exact rB.o
  clear hK K
  try simp only [Act.put,bP,bO,bN]
  refine aL 27 rfl ?_;refine aL 28 rfl ?_;refine wpAnyH_done (by kernel_rfl) ?_ _;refine aP (by rfl) ?_;clear hHeld;generalize gL:cY M=r0 at HS ⊢;clear gL yQ
  by_cases hq:r1=r0
  ·subst hq
   go_wp2_with fail
   go_ret;exact ⟨gA (by rw [HS.o];simp),fV.o.tm rB.o⟩
  ·have hqB:((r1:Int) == (r0:Int))=false:=by simp;omega
   go_wp2_with fail
   go_ret;exact ⟨gA (by rw [HS.o,decide_eq_false hq];simp),fV.o.tm rB.o⟩
 ·have a17:(ia == ib)=false:=by simpa using cP
  refine aJ (S:=fun w'=>Below w6.heap.size w6 w') 29 _ (by kernel_rfl) (by kernel_rfl) rfl (aD bR) (fun hHeld=>?_);simp only [lA,List.take_zero];refine aL 0 rfl ?_;refine aL 1 rfl ?_;refine aL 2 rfl ?_;refine aL 3 rfl ?_;refine aL 4 rfl ?_;refine aL 5 rfl ?_;refine aL 6 rfl ?_;refine aL 7 rfl ?_;refine aL 8 rfl ?_;refine aL 9 rfl ?_;refine aL 10 rfl ?_;refine aL 11 rfl ?_;refine aL 12 rfl ?_;refine aL 13 rfl ?_;refine aL 14 rfl ?_;refine aL 15 rfl ?_;refine aL 16 rfl ?_;refine aL 17 rfl ?_;refine pE 18 rfl (by kernel_rfl) (fun _ _ _ h=>h) (by rfl) hHeld ?_
  try simp only [Act.put,bP,bO,bN]
  refine pE 19 rfl (by kernel_rfl) (fun _ _ _ h=>h) (by rfl) hHeld ?_
  try simp only [Act.put,bP,bO,bN]
  refine pE 20 rfl (by kernel_rfl) (fun _ _ _ h=>h) (by rfl) hHeld ?_
  try simp only [Act.put,bP,bO,bN]
  refine pE 21 rfl (by kernel_rfl) (fun _ _ _ h=>h) (by rfl) hHeld ?_
  try simp only [Act.put,bP,bO,bN]
  refine pE 22 rfl (by kernel_rfl) (fun _ _ _ h=>h) (by rfl) hHeld ?_
  try simp only [Act.put,bP,bO,bN]
  refine pE 23 rfl (by kernel_rfl) (fun _ _ _ h=>h) (by rfl) hHeld ?_
  try simp only [Act.put,bP,bO,bN]
  refine pE 24 rfl (by kernel_rfl) (fun _ _ _ h=>h) (by rfl) hHeld ?_
  try simp only [Act.put,bP,bO,bN]
  refine pE 25 rfl (by kernel_rfl) (fun _ _ _ h=>h) (by rfl) hHeld ?_
  try simp only [Act.put,bP,bO,bN]
  refine pE 26 rfl (by kernel_rfl) (fun _ _ _ h=>h) (by rfl) hHeld ?_
  try simp only [Act.put,bP,bO,bN]
  refine pE 27 rfl (by kernel_rfl) (fun _ _ _ h=>h) (by rfl) hHeld ?_
  try simp only [Act.put,bP,bO,bN]
  refine aL 28 rfl ?_;refine wpAnyH_done (by kernel_rfl) ?_ _;refine aP (by rfl) ?_;clear hHeld
  go_wp2_with fail
  go_ret;exact ⟨gA (by rw [HS.o,decide_eq_false cP];rfl),aD fV.o⟩
def aK4 (x:bE) (ms:List Mi) (w:Wo) (e:Ending) (w':Wo):Prop:=Below w.heap.size w w'/\((b6 x ms≠0/\e=.returned (.tuple #[.slice none 0 0,.int .i64 (b6 x ms)]))\/(b6 x ms=0/\∃ A c,e=.returned (.tuple #[.slice A (aI x) c,.int .i64 0])/\nL w' w'.heap.size A (aI x) (dZ (YT x (aR x ms)))))
theorem NK {S:Nat->Nat->Bool} {b a:Nat} (hf:(List.range b).find? (fun a=>S a b)=some a):(tS S (b+1)).2=(tS S b).2:=by rw [uX,hf]
theorem RP (S:Nat->Nat->Bool) (b:Nat):(tS S b).2<=b:=by
 rw [YU];unfold I5;exact cV (List.length_filter_le _ _) (by rw [List.length_range];exact lR)
theorem VG {S:Nat->Bool} {b a:Nat} (ha:a<b) (h:∀ k,k<a->S k=false) (hs:S a=true):(List.range b).find? S=some a:=by
 induction b with
 | zero=>omega
 | succ b ih=>
  rw [List.range_succ,List.find?_append]
  by_cases oS:a<b
  ·rw [ih oS];rfl
  ·have e:a=b:=by omega
   subst e;rw [List.find?_eq_none.2 fun k hk=>by rw [h k (List.mem_range.1 hk)];simp];simp [hs]
theorem aIA {S:Nat->Bool} {b:Nat} (h:∀ k,k<b->S k=false):(List.range b).find? S=none:=by
 rw [List.find?_eq_none];intro k hk;rw [h k (List.mem_range.1 hk)];simp
theorem aA7 (h:cE) (x:bE) (h8:x.nodes.length<=8) (A:OA) (n c:Nat) (ms:List Mi) (w:Wo) (r:cS w w.heap.size h x) (hm:eG w w.heap.size A n ms) (hz:∀ m∈ms,m.txt.size<=maxLen) (hn:n<=9223372036854775807) (ht:dA w) :
    Calls Tryz.prog 79 #[.agg h.cells,.slice A n c] w (aK4 x ms w):=by
 have K0:Below w.heap.size w (w.alloc (.cells h.cells 29)):=bA;have HK:=lH K0;have P0:=lH (aG.new w 29 h.cells);have HX:=lH (r.up K0);have HM:=lH (hm.bm K0);have j_:Hid (ms.length=n):=lH hm.1;have dW:Hid (w.heap.size<=(w.alloc (.cells h.cells 29)).heap.size):=lH K0.size;have DO:=lH (mS h x A n c ms (w.alloc (.cells h.cells 29)) HX.o HM.o hz hn (ht.up K0));have HCP:Hid (∀ e w',aK4 x ms w e w'<->(Below w.heap.size w w'/\((b6 x ms≠0/\e=.returned (.tuple #[.slice none 0 0,.int .i64 (b6 x ms)]))\/(b6 x ms=0/\∃ A c,e=.returned (.tuple #[.slice A (aI x) c,.int .i64 0])/\nL w' w'.heap.size A (aI x) (dZ (YT x (aR x ms))))))):=lH fun e w'=>Iff.rfl;have tA:Hid (b6 x ms=0->cN x/\ms.length<=64/\∀ m∈ms,nV x m):=lH iU;generalize b6 x ms=ck at *;clear K0 hm r hz ht
 obtain ⟨D0,r0,s0,D1,r1,s1,D2,r2,s2,D3,r3,s3,D4,r4,s4,D5,r5,s5⟩:=h;obtain ⟨y0,y1,y2,y3,y4,y5,nf,nlt⟩:=a_ P0.o;dsimp only at y0 y1 y2 y3 y4 y5;go_enter Tryz.func79,Tryz.ntmps79
 go_wp2_with fail
 generalize w.alloc (.cells (cE.cells ⟨D0,r0,s0,D1,r1,s1,D2,r2,s2,D3,r3,s3,D4,r4,s4,D5,r5,s5⟩) 29)=W at *;refine DO.o.mono ?_;rintro e w1 ⟨rfl,bH⟩;have bS:=lH bH;clear bH y0 y1 y2 y3 y4 y5 nf nlt DO
 by_cases iX:ck=0
 ·subst iX
  obtain ⟨ok,hl,jS⟩:=tA.o rfl;have cH:=lH ok;have HL:=lH hl;have q_:=lH jS;clear ok hl jS tA;have P1:=P0.o.bl bS.o;obtain ⟨y0,y1,y2,y3,y4,y5,nf,nlt⟩:=a_ P1;dsimp only at y0 y1 y2 y3 y4 y5;clear P1
  go_wp2_with fail
  refine (jI _ x cH.o h8 w1 (HX.o.up bS.o)).mono ?_;rintro e w2 ⟨bL,g,m,A7,n7,c7,rfl,hg,b_,jY,-⟩;have bW:=lH (bS.o.tm bL);have HG:=lH b_;have HR:=lH jY;clear bL hg b_ jY y0 y1 y2 y3 y4 y5 nf nlt;have hz3:Below w2.heap.size w2 (w2.alloc (.cells #[.pointer (some ⟨g,0,none⟩)] 90)):=bA;have H7:=lH (aG.new w2 90 #[.pointer (some ⟨g,0,none⟩)]);have dR:=lH (bW.o.tm hz3);replace HG:=lH (HG.o.bl hz3);replace HR:=lH (HR.o.up hz3);clear hz3 bW
  go_upto_region 5 with fail
  generalize w2.heap.size=p7 at *;generalize w2.alloc (.cells #[.pointer (some ⟨g,0,none⟩)] 90)=w3 at *;have P1:=P0.o.bl dR.o;obtain ⟨y0,y1,y2,y3,y4,y5,nf,nlt⟩:=a_ P1;dsimp only at y0 y1 y2 y3 y4 y5;have z7:=H7.o.cell 0;have z7l:=H7.o.lt;clear P1
  go_wp2_with fail
  refine (BW _ x cH.o h8 g m _ A n c ms w3 (HX.o.up dR.o) HG.o HR.o (HM.o.bm dR.o) (by have:=HL.o;have:=j_.o;omega) q_.o).mono ?_;rintro e w4 ⟨dU,A8,c8,rfl,SN,VD,M4⟩;have D_:=lH SN;have N6:=lH VD;have N4:=lH M4;have SU:=lH (aCP cH.o h8 HL.o q_.o);clear SN VD M4 y0 y1 y2 y3 y4 y5 nf nlt z7 z7l HM HX P0;generalize aR x ms=M at *;generalize ms.length=q at *;have hz5:Below w4.heap.size w4 (w4.alloc (.cells #[.slice A8 q c8] 92)):=bA;have H8:=lH (aG.new w4 92 #[.slice A8 q c8]);have hz6:=dU.tm hz5;have dX:=lH (dR.o.tm hz6);replace HG:=lH (HG.o.bl hz6);replace HR:=lH (HR.o.up hz6);replace H7:=lH (H7.o.bl hz6);replace D_:=lH (D_.o.up hz5);clear hz5 hz6 dR dU
  go_upto_region 6 with fail
  generalize w4.heap.size=p8 at *;generalize w4.alloc (.cells #[.slice A8 q c8] 92)=w5 at *;have z8:=H8.o.cell 0;have z8l:=H8.o.lt
  go_wp2_with fail
  refine (F2 A8 q c8 _ _ _ w5 D_.o SU.o).mono ?_;rintro e w6 ⟨rfl,fQ⟩;clear z8 z8l;have hz7:Below w6.heap.size w6 (w6.alloc (.cells #[.int .i64 (cY M:Int)] 3)):=bA;have H9:=lH (aG.new w6 3 #[.int .i64 (cY M:Int)]);have hz8:=fQ.tm hz7;have iM:=lH (dX.o.tm hz8);replace HG:=lH (HG.o.bl hz8);replace HR:=lH (HR.o.up hz8);replace H7:=lH (H7.o.bl hz8);replace H8:=lH (H8.o.bl hz8);replace D_:=lH (D_.o.up hz8);clear hz7 hz8 dX fQ
  go_upto_region 8 with fail
  generalize w6.heap.size=p9 at *;generalize w6.alloc (.cells #[.int .i64 (cY M:Int)] 3)=w7 at *;have HE:Hid (aFw w7 p7 p8 p9 g m _ x A8 q c8 M):=lH ⟨H7.o,H8.o,H9.o,HG.o,HR.o,D_.o⟩;have eN:Hid (aI x=m.n1):=lH (by rw [<-rV cH.o];exact HR.o.r1.len);have LZ:Hid (aI x<=8):=lH (cV (fR cH.o).2 h8);clear H8 H9 HR D_;have z7:=H7.o.cell 0;have z7l:=H7.o.lt
  go_wp2_with fail
  refine (mT g m _ w7 HG.o).mono ?_;rintro e w8 ⟨rfl,rfl⟩;clear z7 z7l H7 HG;rw [<-eN.o];have HAR:Hid (YT x M=(tS (FS x M) (aI x)).1):=lH rfl;have HSM:Hid (∀ (wr:Wo) (a b:Nat),Below w7.heap.size w7 wr->a<aI x->b<aI x->Calls Tryz.prog 122 #[.int .i64 (a:Int),.int .i64 (b:Int),.pointer (some ⟨p7,0,none⟩),.pointer (some ⟨p8,0,none⟩),.pointer (some ⟨p9,0,none⟩)] wr fun e w'=>e=.returned (.bool (FS x M a b))/\Below wr.heap.size wr w'):=lH fun wr a b hb ha hb'=>aCL (HE.o.up hb) cH.o h8 SU.o (by have:=HL.o;omega) a b ha hb';generalize FS x M=S at *;generalize aI x=nb at *;have a19:nb<=8:=LZ.o;have tK:∀ w:World,(Instr.makeSlice 30 (.int .i64 (nb:Int)) (.int .i64 (nb:Int))).run Tryz.prog w=.ok (.slice (some ⟨w.heap.size,0,none⟩) nb nb) (w.alloc (.cells (madeCells #[.int .i64 0] nb) 3)):=
   fun w=>run_make_row' (P:=Tryz.prog) 30 3 (.int .i64 0) 8 Tryz.underlying30 GK rfl .i64 .i64 nb (by omega) (by omega) w
  have hz9:Below w7.heap.size w7 (w7.alloc (.cells (madeCells #[.int .i64 0] nb) 3)):=bA;have cQ:=lH hz9;have HG9:Hid (aG (w7.alloc (.cells (madeCells #[.int .i64 0] nb) 3)) w7.heap.size 3 (ints (List.replicate nb 0)).toArray):=lH (by
   have h:=aG.new w7 3 (madeCells #[.int .i64 0] nb);have e:madeCells #[.int .i64 0] nb=(ints (List.replicate nb 0)).toArray:=by
    apply Array.ext';rw [toList_madeCells_one];unfold ints;simp
   rw [e] at h ⊢;exact h)
  clear hz9
  go_wp2_with fail
  clear tK;have jB:Hid (w.heap.size<=w7.heap.size/\W.heap.size<=w7.heap.size):=lH ⟨cV dW.o iM.o.size,iM.o.size⟩;generalize w7.alloc (.cells (madeCells #[.int .i64 0] nb) 3)=w9 at *;generalize w7.heap.size=go at *
  go_loopw [12,35] (fun v12 v35 wr=>∃ (b:Nat) (L:List Int),b<=nb/\v35=.int .i64 b/\v12=.int .i64 ((tS S b).2:Nat)/\ArS S nb b L/\aG wr go 3 (ints L).toArray/\Below go w7 wr) (fun _ v35 _=>nb-(intOf v35).toNat)
  case atStart=>exact ⟨0,_,by omega,rfl,rfl,ArS.start _ _,HG9.o,cQ.o⟩
  case round=>
   obtain ⟨b,L,hb,rfl,rfl,aQu,b_,CF⟩:=hrel;have HAS:=lH aQu;have iP:=lH b_;have fZ:=lH CF;have nR:=lH (RP S b);clear aQu b_ CF
   by_cases aW:b<nb
   ·have l_:=lN b
    have jW:Hid (nb-(b+1)<nb-b):=lH (by omega);have tB:=lH aW;have hbI:(b:Int)<(nb:Int):=by omega
    have AD:=lZ b
    have hbn:=kU b;obtain ⟨x0,OE⟩:∃ x0,L[b]?=some x0:=eO (by rw [HAS.o.len];exact aW);have zc:wr.cell? ⟨go,b,none⟩=some (.int .i64 x0):=by rw [iP.o.cell,List.getElem?_toArray];unfold ints;rw [kI,OE];rfl
    have zl:=iP.o.lt;have zf:=iP.o.frozen;have aRx:Hid (∀ (W2:Wo) (z1 z2:Int),aG W2 go 3 (ints (L.set b z1)).toArray->aG (W2.setCell ⟨go,b,none⟩ (.int .i64 z2)) go 3 (ints (L.set b z2)).toArray):=lH fun W2 z1 z2 h=>by
     have h2:=h.set_ b (.int .i64 z2);have e:(ints (L.set b z1)).toArray.setIfInBounds b (.int .i64 z2)=(ints (L.set b z2)).toArray:=by
      unfold ints;rw [List.setIfInBounds_toArray,List.map_set,List.map_set,List.set_set]
     rw [e] at h2;exact h2
    have bS:Hid (aG (wr.setCell ⟨go,b,none⟩ (.int .i64 (-1))) go 3 (ints (L.set b (-1))).toArray):=lH (by
     have h2:=iP.o.set_ b (.int .i64 (-1));have e:(ints L).toArray.setIfInBounds b (.int .i64 (-1))=(ints (L.set b (-1))).toArray:=by
      unfold ints;rw [List.setIfInBounds_toArray,List.map_set]
     rw [e] at h2;exact h2)
    have JQ:Hid (Below go w7 (wr.setCell ⟨go,b,none⟩ (.int .i64 (-1)))):=lH (fZ.o.setCell lR _);clear OE
    go_upto_block 2 with fail
    clear zc zl zf iP fZ hbI;generalize wr.setCell ⟨go,b,none⟩ (.int .i64 (-1))=wa at *
    go_cut [] (fun wc=>∃ z:Int,aG wc go 3 (ints (L.set b z)).toArray/\Below go w7 wc/\((∃ a,(List.range b).find? (fun a=>S a b)=some a/\z=L.getD a 0)\/((List.range b).find? (fun a=>S a b)=none/\z=-1)))
    case first=>
     go_wp2_with fail
     go_loopw [42] (fun v42 wr=>∃ a:Nat,a<=b/\v42=.int .i64 a/\(∀ k,k<a->S k b=false)/\aG wr go 3 (ints (L.set b (-1))).toArray/\Below go w7 wr) (fun v42 _=>b-(intOf v42).toNat)
     case atStart=>exact ⟨0,by omega,rfl,fun k h=>by omega,bS.o,JQ.o⟩
     case round=>
      clear bS JQ;obtain ⟨a,ha,rfl,hs,b_,CF⟩:=hrel;have HS:=lH hs;have bS:=lH b_;have JQ:=lH CF;clear hs b_ CF
      by_cases U4:a<b
      ·have haI:(a:Int)<(b:Int):=by omega
       have HNY:=lN a;have OK:Hid (b-(a+1)<b-a):=lH (by omega);have HLA:=lH U4
       go_wp2_with fail
       refine (HSM.o wr a b JQ.o (by omega) (by omega)).mono ?_;rintro e w10 ⟨rfl,qX⟩;have bW:=lH (bS.o.bl qX);have NS:Hid (Below go w7 w10):=lH (JQ.o.trans (qX.mono (rC bS.o.lt)));clear qX bS JQ;cases hsab:S a b with
       | true=>
        obtain ⟨x1,yA⟩:∃ x1,L.getD a 0=x1:=⟨_,rfl⟩;have cJ:=lH yA;have HFD:=lH (VG (S:=fun a=>S a b) U4 HS.o hsab);have zb:w10.cell? ⟨go,b,none⟩=some (.int .i64 (-1)):=by rw [bW.o.cell,List.getElem?_toArray];unfold ints;rw [kI,List.getElem?_set,if_pos rfl,if_pos (by rw [HAS.o.len];omega)];rfl
        have za:w10.cell? ⟨go,a,none⟩=some (.int .i64 x1):=by
         rw [bW.o.cell,List.getElem?_toArray];unfold ints;rw [kI,List.getElem?_set,if_neg (by omega),<-yA,eY,jA (by rw [HAS.o.len];omega)];rfl
        have zl:=bW.o.lt;have zf:=bW.o.frozen;have hbI:(b:Int)<(nb:Int):=by omega
        have haJ:(a:Int)<(nb:Int):=by omega
        have ha0:=lZ a
        have han:=kU a;clear yA hsab
        go_wp2_with fail
        clear zb za zl zf;go_meet
        case rel=>exact ⟨x1,aRx.o _ _ _ bW.o,NS.o.setCell lR _,.inl ⟨a,HFD.o,cJ.o.symm⟩⟩
       | false=>
        have HSN:Hid (∀ k,k<a+1->S k b=false):=lH fun k hk=>by
         by_cases h:k<a
         ·exact HS.o k h
         ·have:k=a:=by omega
          rw [this];exact hsab
        clear hsab
        go_wp2_with fail
        go_roundw
        case rel=>exact ⟨a+1,U4,aQ HNY.o,HSN.o,bW.o,NS.o⟩
        case measure=>exact OK.o
      ·have oS:a=b:=by omega
       subst oS;have haI:¬(a:Int)<(a:Int):=by omega
       have HFD:=lH (aIA (S:=fun k=>S k a) HS.o)
       go_wp2_with fail
       go_meet
       case rel=>exact ⟨-1,bS.o,JQ.o,.inr ⟨HFD.o,rfl⟩⟩
    case rest=>
     obtain ⟨z,b_,CF,hor⟩:=hcut;clear bS JQ;have bW:=lH b_;have NS:=lH CF;have zb:wc.cell? ⟨go,b,none⟩=some (.int .i64 z):=by rw [bW.o.cell,List.getElem?_toArray];unfold ints;rw [kI,List.getElem?_set,if_pos rfl,if_pos (by rw [HAS.o.len];exact tB.o)];rfl
     have zl:=bW.o.lt;have zf:=bW.o.frozen;have hbI:(b:Int)<(nb:Int):=by have:=tB.o;omega
     clear b_ CF;rcases hor with ⟨a,hfd,hz⟩ | ⟨hfd,hz⟩
     ·have ha:a<b:=by simpa using List.mem_of_find?_eq_some hfd
      have QJ:¬z<0:=by have:=HAS.o.at_ a ha;omega
      have HA2:Hid (ArS S nb (b+1) (L.set b z)):=lH (by rw [hz];exact HAS.o.old tB.o hfd);have WF:=lH (NK hfd);clear hfd hz ha
      go_wp2_with fail
      clear zb zl zf;go_roundw
      case rel=>exact ⟨b+1,_,tB.o,aQ l_.o,by rw [WF.o],HA2.o,bW.o,NS.o⟩
      case measure=>exact jW.o
     ·have aIe:z<0:=by omega
      obtain ⟨LC,hM2⟩:=HAS.o.new tB.o hfd;have HA2:=lH LC;have WF:=lH hM2;clear hfd LC hM2;obtain ⟨mm,pS⟩:∃ mm,(tS S b).2=mm:=⟨_,rfl⟩;rw [pS] at HA2 WF nR ⊢;have hmb:mm<=8:=by have:=nR.o;omega
      have HMX:=lN mm;clear pS
      go_wp2_with fail
      clear zb zl zf;go_roundw
      case rel=>exact ⟨b+1,_,tB.o,aQ l_.o,by rw [WF.o];exact aQ HMX.o,HA2.o,aRx.o _ _ _ bW.o,NS.o.setCell lR _⟩
      case measure=>exact jW.o
   ·have lS:b=nb:=by omega
    subst lS;have fT:¬(b:Int)<(b:Int):=by omega
    have EF:=lH HAS.o.fin
    go_wp2_with fail
    go_ret2;rw [HCP.o];refine ⟨HK.o.trans ((iM.o.trans (fZ.o.mono jB.o.2)).mono dW.o),.inr ⟨by trivial,some ⟨go,0,none⟩,b,rfl,?_⟩⟩;rw [HAR.o,<-EF.o];have hl:=HAS.o.len;exact ⟨by unfold ints;rw [lB,hl,Nat.mul_one],fun _=>⟨go,0,rfl,iP.o.lt,fun j u hu=>by rw [Nat.zero_add,iP.o.cell j];simpa using hu⟩⟩
 ·have aEF:(ck != 0)=true:=by simp [iX]
  go_wp2_with fail
  go_ret2;rw [HCP.o];exact ⟨HK.o.trans (bS.o.mono dW.o),.inl ⟨iX,rfl⟩⟩
end
section
open Go.ChangeShapes Go.WideShapes Go.ChangeAt Go.RowKit
attribute [local go_sem ↓] aE
attribute [local go_sem] aK aH aM
theorem GR (A:OA) (n c:Nat) (zs:List Int) (z:Int) (w:Wo) (hr:nL w w.heap.size A n zs) (hn:n<=9223372036854775807) :
    Calls Tryz.prog 30 #[.slice A n c,.int .i64 z] w fun e w'=>e=.returned (.bool (zs.any (· == z)))/\w=w':=by
 have eC:=lH hr.len;go_enter Tryz.func30,Tryz.ntmps30
 go_wp2_with fail
 go_loop [6,9] (fun _ i=>∃ k:Nat,k<=n/\i=.int .i64 k/\zs.any (· == z)=(zs.drop k).any (· == z)) (fun _ i=>n-(intOf i).toNat)
 case atStart=>exact ⟨0,by omega,rfl,rfl⟩
 case round=>
  obtain ⟨k,hk,rfl,z_⟩:=hrel;have tC:=lH z_;clear z_
  by_cases aW:k<n
  ·obtain ⟨y,hy⟩:∃ y,zs[k]?=some y:=eO (by have:=eC.out;omega)
   obtain ⟨b,off,rfl,QO,_⟩:=hr.2 (by omega);have nX:=hr.at_ hy;have HZ:=lH (cM hy);clear hy;cases hp:(y == z) with
   | true=>
    have HP:=lH hp
    go_wp2_with fail
    go_ret;exact ⟨gA (by rw [tC.o,HZ.o];simp [HP.o]),rfl⟩
   | false=>
    have HP:=lH hp
    go_wp2_with fail
    go_round
    case rel=>exact ⟨k+1,by omega,by go_num,by rw [tC.o,HZ.o];simp [HP.o]⟩
    case measure=>simp [intOf];omega
  ·have hd:zs.drop k=[]:=by rw [List.drop_eq_nil_iff];have:=eC.out;omega
   have HD:=lH hd;clear hd
   go_wp2_with fail
   go_ret;exact ⟨gA (by rw [tC.o,HD.o];rfl),rfl⟩
end
section
open Go.ChangeShapes Go.WideShapes Go.ChangeAt Go.RowKit
attribute [local go_sem ↓] aE
attribute [local go_sem] aK aH aM aY
def TT:List Mi:=[⟨0,⟨#[76]⟩,⟨#[48]⟩,1⟩,⟨0,⟨#[77]⟩,⟨#[48]⟩,1⟩,⟨0,⟨#[76]⟩,⟨#[49]⟩,1⟩]
theorem XH:qE bT TT=(2,2,0):=by decide+kernel
theorem aJG:b6 bT TT=0/\b6 bT (TT.take 1)=0:=by decide+kernel
theorem aHz:qO (aR bT TT)=[1]:=by decide+kernel
theorem XI:YT bT (aR bT (TT.take 1))=[0,0,1]/\aI bT=3:=by decide+kernel
theorem aLm:aHJ bT TT=true:=by decide+kernel
theorem XG:∀ m∈TT,m.txt.size<=maxLen:=by decide+kernel
theorem aLl:∀ m∈TT.take 1,m.txt.size<=maxLen:=fun m hm=>XG m (List.mem_of_mem_take hm)
theorem TV (w:Wo) (ht:dA w):Calls Tryz.prog 37 #[] w fun e w'=>e=.returned (.bool true)/\Below w.heap.size w w':=by
 have HT:=lH ht;clear ht;go_enter Tryz.func37,Tryz.ntmps37
 go_wp2_with fail
 refine (fF ⟨#[76]⟩ ⟨#[48]⟩ w).mono ?_;rintro e w1 ⟨rfl,bH⟩
 go_wp2_with fail
 refine (fF ⟨#[77]⟩ ⟨#[48]⟩ w1).mono ?_;rintro e w2 ⟨rfl,bL⟩
 go_wp2_with fail
 refine (fF ⟨#[76]⟩ ⟨#[49]⟩ w2).mono ?_;rintro e w3 ⟨rfl,cR⟩;have dR:=lH (bH.trans ((bL.tm cR).mono bH.size));clear bH bL cR
 go_upto_region 2 with fail
 have hz:Below w3.heap.size w3 (w3.alloc (.cells #[.int .i64 0,.string ⟨#[76]⟩,.string ⟨#[48]⟩,.int .i64 1,.int .i64 0,.string ⟨#[77]⟩,.string ⟨#[48]⟩,.int .i64 1,.int .i64 0,.string ⟨#[76]⟩,.string ⟨#[49]⟩,.int .i64 1] 57)):=bA;have bK:=lH (dR.o.tm hz);have WE:Hid (eG (w3.alloc (.cells #[.int .i64 0,.string ⟨#[76]⟩,.string ⟨#[48]⟩,.int .i64 1,.int .i64 0,.string ⟨#[77]⟩,.string ⟨#[48]⟩,.int .i64 1,.int .i64 0,.string ⟨#[76]⟩,.string ⟨#[49]⟩,.int .i64 1] 57)) (w3.alloc (.cells #[.int .i64 0,.string ⟨#[76]⟩,.string ⟨#[48]⟩,.int .i64 1,.int .i64 0,.string ⟨#[77]⟩,.string ⟨#[48]⟩,.int .i64 1,.int .i64 0,.string ⟨#[76]⟩,.string ⟨#[49]⟩,.int .i64 1] 57)).heap.size (some ⟨w3.heap.size,0,none⟩) 3 TT):=lH ⟨rfl,uJ (vs:=TT.flatMap Mi.cells) (T:=57) (aG.new w3 _ _) rfl (by simp)⟩;clear hz dR
 generalize w3.alloc (.cells #[.int .i64 0,.string ⟨#[76]⟩,.string ⟨#[48]⟩,.int .i64 1,.int .i64 0,.string ⟨#[77]⟩,.string ⟨#[48]⟩,.int .i64 1,.int .i64 0,.string ⟨#[76]⟩,.string ⟨#[49]⟩,.int .i64 1] 57)=w4 at *;generalize w3.heap.size=gl at *;have HT4:=lH (HT.o.up bK.o)
 go_wp2_with fail
 refine (eL w4).mono ?_;rintro e w5 ⟨h5,rfl,xL,eD⟩;have dX:=lH (bK.o.tm eD);have Y5:=lH (WE.o.bm eD);have LY:=lH xL;have HT5:=lH (HT.o.up dX.o);clear eD xL bK WE HT4
 go_wp2_with fail
 refine (KN h5 bT (by decide) _ 3 3 TT w5 LY.o Y5.o XG (by decide) HT5.o).mono ?_;rintro e w6 ⟨rfl,fQ⟩;have fV:=lH (dX.o.tm fQ);have HM6:=lH (Y5.o.bm fQ);rw [XH];clear fQ dX Y5 LY HT5
 go_wp2_with fail
 refine (eL w6).mono ?_;rintro e w7 ⟨h7,rfl,hr7,gY⟩;have iM:=lH (fV.o.tm gY);have HM7:=lH (HM6.o.bm gY);have NV:=lH hr7;have HT7:=lH (HT.o.up iM.o);clear gY hr7 fV HM6
 go_wp2_with fail
 refine (RC h7 bT (by decide) _ 3 3 TT w7 NV.o HM7.o XG (by decide) HT7.o).mono ?_;rintro e w8 ⟨e_,hh⟩;rw [aJG.1,aHz] at hh;rcases hh with ⟨h0,_⟩ | ⟨_,A8,c8,rfl,aPr⟩
 ·exact absurd rfl h0
 have dF:=lH (iM.o.tm e_);have p_:=lH (HM7.o.bm e_);have HI8:Hid (nL w8 w8.heap.size A8 1 [1]):=lH aPr;clear e_ aPr iM HM7 NV HT7;simp only [E_,zW_,Nat.zero_add]
 go_upto_region 4 with fail
 have L2:Hid (eG w8 w8.heap.size (some ⟨gl,0,none⟩) 1 (TT.take 1)):=lH (p_.o.take (m:=1) (by decide));have cQ:=lH (aD (Below.refl w8.heap.size w8));refine aJ (S:=fun w'=>Below w8.heap.size w8 w') 8 _ (by kernel_rfl) (by kernel_rfl) rfl (aD bR) (fun hHeld=>?_);simp only [lA,List.take_zero];refine aL 1 rfl ?_;refine aL 2 rfl ?_;refine aU 0 (by kernel_rfl) rfl (fun K hK=>?_);go_simp;refine (eL w8.drew).mono ?_;rintro e w9 ⟨h9,rfl,hr9,gE⟩;have HBa:Hid (Below w8.heap.size w8 w9):=lH (cQ.o.tm gE);have HR9:=lH hr9;clear gE hr9;go_simp;refine hK.out _ _ ?_ (fun hHeld=>?_)
 ·exact HBa.o
 clear hK K
 try simp only [Act.put,bP,bO,bN]
 refine aU 3 (by kernel_rfl) rfl (fun K hK=>?_);go_simp;refine (aA7 h9 bT (by decide) _ 1 3 (TT.take 1) w9 HR9.o (L2.o.bm HBa.o) aLl (by decide) (HT.o.up (dF.o.tm HBa.o))).mono ?_;rintro e w10 ⟨qX,hh⟩;rw [aJG.2,XI.1,XI.2] at hh;rcases hh with ⟨h0,_⟩ | ⟨_,A10,c10,rfl,aJZ⟩
 ·exact absurd rfl h0
 have N7:Hid (Below w8.heap.size w8 w10):=lH (HBa.o.tm qX);have ED:Hid (nL w10 w10.heap.size A10 3 [0,0,1]):=lH aJZ;clear qX aJZ;go_simp;refine hK.out _ _ ?_ (fun hHeld=>?_)
 ·exact N7.o
 clear hK K
 try simp only [Act.put,bP,bO,bN]
 refine aL 4 rfl ?_;refine aL 5 rfl ?_;refine aL 6 rfl ?_;refine aL 7 rfl ?_;refine wpAnyH_done (by kernel_rfl) ?_ _;refine aP (by rfl) ?_;clear hHeld;have HBc:=lH (dF.o.tm N7.o);have HMc:=lH (p_.o.bm N7.o);have HIc:=lH (HI8.o.bm N7.o);clear dF p_ HI8 L2 cQ HBa N7 HR9
 go_wp2_with fail
 refine (eL w10).mono ?_;rintro e w11 ⟨h11,rfl,aPt,mF⟩;have rB:=lH (HBc.o.tm mF);have yM:=lH (HMc.o.bm mF);have aRM:=lH aPt;have aRp:=lH (HT.o.up rB.o);replace HIc:=lH (HIc.o.bm mF);replace ED:=lH (ED.o.bm mF);clear mF aPt HBc HMc
 go_wp2_with fail
 refine (aHI h11 bT (by decide) _ 3 3 TT w11 aRM.o yM.o XG (by decide) aRp.o).mono ?_;rintro e w12 ⟨rfl,uQ⟩;rw [XH,aLm];have vI:=lH (rB.o.tm uQ);replace HIc:=lH (HIc.o.bm uQ);replace ED:=lH (ED.o.bm uQ);clear uQ rB yM aRM aRp
 go_wp2_with fail
 have aHZ:Below w12.heap.size w12 (w12.alloc (.cells #[.int .i64 1] 3)):=bA;have aSi:Hid (nL (w12.alloc (.cells #[.int .i64 1] 3)) (w12.alloc (.cells #[.int .i64 1] 3)).heap.size (some ⟨w12.heap.size,0,none⟩) 1 [1]):=lH (uJ (vs:=ints [1]) (T:=3) (aG.new w12 _ _) rfl (by simp));have N9:=lH (vI.o.tm aHZ);replace HIc:=lH (HIc.o.bm aHZ);replace ED:=lH (ED.o.bm aHZ);clear aHZ vI;generalize w12.alloc (.cells #[.int .i64 1] 3)=w13 at *;refine (nZ A8 1 c8 [1] _ 1 1 [1] w13 HIc.o aSi.o (by decide)).mono ?_;rintro e w14 ⟨rfl,nq,rfl⟩;have aO5:=bC (Below.refl w13.heap.size w13) nq;have aJq:=lH (bC N9.o nq);replace ED:=lH (ED.o.bm aO5);clear aO5 N9 aSi HIc;generalize w13.drewN nq=w14 at *
 rw [show C_ [1] [1]=true from by decide]
 go_wp2_with fail
 have aLG:Below w14.heap.size w14 (w14.alloc (.cells #[.int .i64 0,.int .i64 0,.int .i64 1] 3)):=bA;have aSh:Hid (nL (w14.alloc (.cells #[.int .i64 0,.int .i64 0,.int .i64 1] 3)) (w14.alloc (.cells #[.int .i64 0,.int .i64 0,.int .i64 1] 3)).heap.size (some ⟨w14.heap.size,0,none⟩) 3 [0,0,1]):=lH (uJ (vs:=ints [0,0,1]) (T:=3) (aG.new w14 _ _) rfl (by simp));have aSK:=lH (aJq.o.tm aLG);replace ED:=lH (ED.o.bm aLG);clear aLG aJq;generalize w14.alloc (.cells #[.int .i64 0,.int .i64 0,.int .i64 1] 3)=w15 at *;refine (nZ A10 3 c10 [0,0,1] _ 3 3 [0,0,1] w15 ED.o aSh.o (by decide)).mono ?_;rintro e w16 ⟨rfl,nq,rfl⟩;have aXY:=lH (bC aSK.o nq);clear aSK aSh ED;generalize w15.drewN nq=w16 at *;rw [show C_ [0,0,1] [0,0,1]=true from by decide]
 go_wp2_with fail
 go_ret;exact ⟨rfl,aXY.o⟩
end
section
open Go.ChangeShapes Go.WideShapes Go.ChangeAt Go.RowKit
theorem PS {F:List Nat} {i:Nat}:(dZ F).any (· == (i:Int))=true<->i∈F:=by
 unfold dZ;rw [List.any_eq_true]
 constructor
 ·rintro ⟨z,hz,e⟩
  obtain ⟨j,hj,rfl⟩:=List.mem_map.1 hz;have:(j:Int)=(i:Int):=by simpa using e
  rwa [show i=j by omega]
 ·intro h
  exact ⟨(i:Int),List.mem_map.2 ⟨i,h,rfl⟩,by simp⟩
end
section
section
variable {x:bE} {ms:List Mi}
theorem aCG (h:D7 x ms) (hr:mI x ms) {k:Nat} (hk:k<ms.length) (h0:vf (eQ x ms) k=0):vf (bD x ms (bX x ms)) k=0:=by
 rw [iA (EM h.ok h.mi hk)] at h0;rw [BO h hk];exact (yZ hr k).res_zero (GC fun m hm=>(h.wt m hm).1) hk h0 (QY hr)
theorem spr_nn (h:D7 x ms) (hr:mI x ms) {k:Nat} (hk:k<ms.length):0<=vf (eQ x ms) k:=by
 rw [iA (EM h.ok h.mi hk)];exact (yZ hr k).spr_nn (GC fun m hm=>(h.wt m hm).1) hk
end
theorem FU {x:bE} {ms:List Mi} {k:Nat}:aR x (ms.eraseIdx k)=eX (aR x ms) k:=by
 unfold aR eX;rw [List.eraseIdx_eq_take_drop_succ,List.map_append,List.map_take,List.map_drop]
theorem aCF {x:bE} {ms:List Mi} (h:D7 x ms) (hr:mI x ms) {k:Nat} (hk:k<ms.length):vf (eQ x ms) k=0<->k∈qO (aR x ms):=by
 have hp:(fM x ms).Pos:=GC fun m hm=>(h.wt m hm).1;have hR:=(LG h.ok h.mi fun m hm=>(h.wt m hm).1).1 hr;have sP:D7 x (ms.eraseIdx k):=h.sub (List.eraseIdx_sublist _ _);have hE:=LG sP.ok sP.mi fun m hm=>(sP.wt m hm).1;rw [FU] at hE;rw [aFg,lI]
 constructor
 ·intro h0
  refine ⟨hk,?_⟩;have K5:cY (eX (aR x ms) k)<=(aA x).length:=aHr (by rw [<-FU];exact (gT sP.ok sP.mi).1);rcases Nat.lt_or_ge (cY (eX (aR x ms) k)) (cY (aR x ms)) with e | e
  ·exact e
  ·have hre:mI x (ms.eraseIdx k):=hE.2 (by omega)
   rw [iA (EM h.ok h.mi hk)] at h0;obtain ⟨h1,h2⟩:=(yZ hr k).spr_zero hp hk h0;refine absurd ?_ h2;have hz:=(uV fun m hm=>(sP.wt m hm).1).1 hre (ZU x ms k) (fun j hj=>by
    rw [List.length_eraseIdx_of_lt hk] at hj
    by_cases hjk:j<k
    ·obtain ⟨m,hm⟩:∃ m,ms[j]?=some m:=eO (by omega)
     have e:(ms.eraseIdx k)[j]?=some m:=by rw [List.getElem?_eraseIdx_of_lt hjk];exact hm
     rw [pH e,<-pH hm];exact h1 j (by show j<ms.length;omega) (by omega)
    ·obtain ⟨m,hm⟩:∃ m,ms[j+1]?=some m:=eO (by omega)
     have e:(ms.eraseIdx k)[j]?=some m:=by rw [List.getElem?_eraseIdx_of_ge (by omega)];exact hm
     rw [pH e,<-pH hm];exact h1 (j+1) (by show j+1<ms.length;omega) (by omega))
   exact eV fun i hi=>by rw [hz i hi,Rat.mul_zero]
 ·rintro ⟨-,aW⟩
  by_cases e:vf (eQ x ms) k=0
  ·exact e
  ·have:=hE.1 (G0 h hr hk e)
   omega
end
section
open Go.ChangeShapes Go.WideShapes Go.ChangeAt Go.RowKit
attribute [local go_sem ↓] aE
attribute [local go_sem] aK aH aM aY
theorem l48 {t:ByteArray}:(t.toList == [48])=pR t ⟨#[48]⟩:=by
 rw [<-aY,show (⟨#[48]⟩:ByteArray).toList=[48] from by decide+kernel]
theorem aIN {p q:Rat} (hp:bZ p) (hq:bZ q) (h:q<=p):¬D6 (bV p) (bV q)<0:=by
 obtain ⟨h1,h2⟩:=kV hp;obtain ⟨h3,h4⟩:=kV hq;unfold D6;rw [if_pos (oW.2 fun s hs=>by
  rcases List.mem_cons.1 hs with rfl | hs
  ·exact h1
  ·rw [List.mem_singleton.1 hs];exact h3),h2,h4]
 unfold RI;have h5:=(Rat.le_iff q p).1 h;rcases Int.lt_trichotomy (p.num*(q.den:Int)-q.num*(p.den:Int)) 0 with c | c | c
 ·omega
 ·rw [c];decide
 ·rw [Int.sign_eq_one_of_pos c];decide
theorem aJx (h:cE) (x:bE) (A:OA) (n c:Nat) (ms0:List Mi) (w:Wo) (r:cS w w.heap.size h x) (hm:eG w w.heap.size A n ms0) (hnc:n<=c) (hc:c<=9223372036854775807) (ht:dA w) :
    Calls Tryz.prog 12 #[.agg h.cells,.slice A n c] w fun e w'=>e=.returned (.bool true)/\Below w.heap.size w w':=by
 obtain ⟨k,hk8,qW,aEj⟩:∃ k:Nat,k<=7/\k<=n/\min (n:Int) 7=(k:Int):=by
  by_cases h:(7:Int)<(n:Int)
  ·exact ⟨7,by omega,by omega,by omega⟩
  ·exact ⟨n,by omega,by omega,by omega⟩
 have hkc:(k:Int)<=(c:Int):=by omega
 have JG:=hm.take qW;generalize hms:ms0.take k=ms at *;clear hms hm;have K0:Below w.heap.size w (w.alloc (.cells h.cells 29)):=bA;have HK:=lH K0;have P0:=lH (aG.new w 29 h.cells);have HX:=lH (r.up K0);have HM:=lH (JG.bm K0);have HT:=lH (ht.up K0);have j_:Hid (ms.length=k):=lH JG.1;have dW:Hid (w.heap.size<=(w.alloc (.cells h.cells 29)).heap.size):=lH K0.size;clear K0 JG r ht;obtain ⟨D0,r0,s0,D1,r1,s1,D2,r2,s2,D3,r3,s3,D4,r4,s4,D5,r5,s5⟩:=h;go_enter Tryz.func12,Tryz.ntmps12
 go_wp2_with fail
 generalize w.alloc (.cells (cE.cells ⟨D0,r0,s0,D1,r1,s1,D2,r2,s2,D3,r3,s3,D4,r4,s4,D5,r5,s5⟩) 29)=W at *;have HK:=lH (HK.o.trans ((Below.refl W.heap.size W).mono dW.o));refine (FI W HT.o).mono ?_;rintro e w0 ⟨rfl,AD⟩;have dB:=lH (HK.o.tm AD);replace P0:=lH (P0.o.bl AD);replace HM:=lH (HM.o.bm AD);replace HX:=lH (HX.o.up AD);replace HT:=lH (HT.o.up AD);clear AD
 go_wp2_with fail
 refine (TV w0 HT.o).mono ?_;rintro e w1 ⟨rfl,bH⟩;have bS:=lH (dB.o.tm bH);replace P0:=lH (P0.o.bl bH);replace HM:=lH (HM.o.bm bH);replace HX:=lH (HX.o.up bH);replace HT:=lH (HT.o.up bH);clear bH;clear HK dW dB;have PNX:=P0.o;obtain ⟨y0,y1,y2,y3,y4,y5,nf,nlt⟩:=a_ PNX;dsimp only at y0 y1 y2 y3 y4 y5;clear PNX
 go_wp2_with fail
 clear y0 y1 y2 y3 y4 y5 nf nlt;refine (J_ _ x A k c ms none 0 0 [] w1 HX.o HM.o (aC0 _ _) (by omega) (by decide)).mono ?_;rintro e w2 ⟨rfl,bL⟩;have bW:=lH (bS.o.tm bL);replace P0:=lH (P0.o.bl bL);replace HM:=lH (HM.o.bm bL);replace HX:=lH (HX.o.up bL);replace HT:=lH (HT.o.up bL);clear bL;cases hsm:kN x ms [] with
 | false=>
  go_wp2_with fail
  go_ret;exact ⟨rfl,bW.o⟩
 | true=>
  obtain ⟨h8,h10,UQ⟩:=FQ hsm;have VZ:=lH UQ;have HZ:Hid (∀ m∈ms,m.txt.size<=maxLen):=lH fun m hm=>cV (UQ m hm) (by decide);have WP:=lH h10;clear hsm UQ h10;have PNX:=P0.o;obtain ⟨y0,y1,y2,y3,y4,y5,nf,nlt⟩:=a_ PNX;dsimp only at y0 y1 y2 y3 y4 y5;clear PNX
  go_wp2_with fail
  clear y0 y1 y2 y3 y4 y5 nf nlt;refine (O3 _ x h8 A k c ms w2 HX.o HM.o HZ.o (by omega) HT.o).mono ?_;rintro e w3 ⟨cR,hg3⟩;have dR:=lH (bW.o.tm cR);replace P0:=lH (P0.o.bl cR);replace HM:=lH (HM.o.bm cR);replace HX:=lH (HX.o.up cR);replace HT:=lH (HT.o.up cR);clear cR;obtain ⟨A3,n3,c3,d3,ss,he3,aD7,hc3,hk3,U0⟩:∃ (A3:OA) (n3 c3:Nat) (d3:Int) (ss:List ByteArray),e=.returned (.tuple #[.slice A3 n3 c3,.int .i64 d3])/\bG w3 w3.heap.size A3 n3 ss/\(d3=0->pQ x ms 0/\ss=(eQ x ms).map bV/\∀ q∈eQ x ms,bZ q)/\(d3≠0->n3=0)/\n3<=9223372036854775807:=by
   rcases hg3 with ⟨d,hd,h1,rfl⟩ | ⟨h1,h2,h3⟩
   ·exact ⟨none,0,0,d,[],rfl,⟨rfl,rfl,fun h=>absurd h (by decide)⟩,fun h=>absurd h hd,fun _=>rfl,by decide⟩
   ·by_cases hf:∀ q∈eQ x ms,bZ q
    ·obtain ⟨A3,n3,c3,rfl,h4,h5,h6⟩:=h2 hf
     exact ⟨A3,n3,c3,0,_,rfl,h4,fun _=>⟨h1,rfl,hf⟩,fun h=>absurd rfl h,by unfold maxLen at h6;omega⟩
    ·obtain rfl:=h3 hf
     exact ⟨none,0,0,2,[],rfl,⟨rfl,rfl,fun h=>absurd h (by decide)⟩,fun h=>absurd h (by decide),fun _=>rfl,by decide⟩
  subst he3;have HS:=lH aD7;have SB:=lH hc3;have JY:=lH hk3;have wJ:=lH U0;clear hg3 aD7 hc3 hk3 U0;have PNX:=P0.o;obtain ⟨y0,y1,y2,y3,y4,y5,nf,nlt⟩:=a_ PNX;dsimp only at y0 y1 y2 y3 y4 y5;clear PNX
  go_wp2_with fail
  clear y0 y1 y2 y3 y4 y5 nf nlt;refine (BP _ x h8 A k c ms w3 HX.o HM.o HZ.o (by omega) HT.o).mono ?_;rintro e w4 ⟨dU,hg4⟩;have bK:=lH (dR.o.tm dU);replace P0:=lH (P0.o.bl dU);replace HM:=lH (HM.o.bm dU);replace HX:=lH (HX.o.up dU);replace HT:=lH (HT.o.up dU);replace HS:=lH (HS.o.bm dU);clear dU;obtain ⟨A4,n4,c4,d4,rr,he4,aD6,hc4⟩:∃ (A4:OA) (n4 c4:Nat) (d4:Int) (rr:List ByteArray),e=.returned (.tuple #[.slice A4 n4 c4,.int .i64 d4])/\bG w4 w4.heap.size A4 n4 rr/\(pQ x ms 0->d4=0/\rr=(bD x ms (bX x ms)).map bV):=by
   rcases hg4 with ⟨d,hd,h1,rfl⟩ | ⟨h1,h2,h3⟩
   ·exact ⟨none,0,0,d,[],rfl,⟨rfl,rfl,fun h=>absurd h (by decide)⟩,fun h=>absurd (h1.one h) hd⟩
   ·obtain ⟨e1,e2,e3⟩:=h1.zero rfl
    have hf:=zG (ME h8 WP.o (by have:=j_.o;omega) VZ.o e1) e2;obtain ⟨A3,n3,c3,rfl,h4,h5,h6⟩:=h2 hf;exact ⟨A3,n3,c3,0,_,rfl,h4,fun _=>⟨rfl,rfl⟩⟩
  subst he4;have HR:=lH aD6;have HC4:=lH hc4;clear hg4 aD6 hc4;have PNX:=P0.o;obtain ⟨y0,y1,y2,y3,y4,y5,nf,nlt⟩:=a_ PNX;dsimp only at y0 y1 y2 y3 y4 y5;clear PNX
  go_wp2_with fail
  clear y0 y1 y2 y3 y4 y5 nf nlt;refine (RC _ x h8 A k c ms w4 HX.o HM.o HZ.o (by omega) HT.o).mono ?_;rintro e w5 ⟨eD,hg5⟩;have dX:=lH (bK.o.tm eD);replace P0:=lH (P0.o.bl eD);replace HM:=lH (HM.o.bm eD);replace HX:=lH (HX.o.up eD);replace HT:=lH (HT.o.up eD);replace HS:=lH (HS.o.bm eD);replace HR:=lH (HR.o.bm eD);clear eD;obtain ⟨A5,c5,N5,L5,d5,he5,aPs,hc5⟩:∃ (A5:OA) (c5 N5:Nat) (L5:List Nat) (d5:Int),e=.returned (.tuple #[.slice A5 N5 c5,.int .i64 d5])/\nL w5 w5.heap.size A5 N5 (dZ L5)/\(b6 x ms=0->d5=0/\L5=qO (aR x ms)/\N5<=64):=by
   rcases hg5 with ⟨h0,rfl⟩ | ⟨h0,A5,c5,rfl,h1⟩
   ·exact ⟨none,0,0,[],_,rfl,⟨rfl,fun h=>absurd h (by decide)⟩,fun h=>absurd h h0⟩
   ·refine ⟨A5,c5,_,_,0,rfl,h1,fun _=>⟨rfl,rfl,?_⟩⟩
    unfold qO;refine cV (List.length_filter_le _ _) ?_;rw [List.length_range,lI];exact (iU h0).2.1
  subst he5;have HI:=lH aPs;have HC5:=lH hc5;clear hg5 aPs hc5
  by_cases hd3:d3=0
  case neg=>
   have h1:=JY.o hd3;subst h1;have hB:(d3 != 0)=true:=by simp [hd3]
   go_wp2_with fail
   go_ret;exact ⟨rfl,dX.o⟩
  subst hd3;obtain ⟨hE0,hss,hsf⟩:=SB.o rfl;obtain ⟨hd4,hrr⟩:=HC4.o hE0;obtain ⟨iX,fN,-⟩:=hE0.zero rfl;obtain ⟨hd5,hL5,hN5⟩:=HC5.o iX;subst hd4;subst hd5;have QG:=F9 h8 iX;have hrf:=zG (ME h8 WP.o (by have:=j_.o;omega) VZ.o iX) fN;have aXp:Hid (∀ i,i<k->∃ s r,ss[i]?=some s/\rr[i]?=some r/\s.size<=maxLen/\¬D6 s ⟨#[48]⟩<0/\(s=⟨#[48]⟩<->i∈L5)/\(s=⟨#[48]⟩->r=⟨#[48]⟩)):=lH fun i hi=>by
   have CD:i<ms.length:=by have:=j_.o;omega
   have g1:=bI (l:=eQ x ms) (i:=i) (by rw [iG];exact CD);have g2:=bI (l:=bD x ms (bX x ms)) (i:=i) (by rw [iD];exact CD);have f1:=hsf _ (cO g1);have f2:=hrf _ (cO g2);have oE:=VK.1;refine ⟨bV (vf (eQ x ms) i),bV (vf (bD x ms (bX x ms)) i),by rw [hss,kI,g1];rfl,by rw [hrr,kI,g2];rfl,xS f1,?_,?_,?_⟩
   ·rw [<-oE]
    exact aIN f1 (CK (by decide+kernel)) (spr_nn QG fN CD)
   ·rw [<-oE,hL5,<-aCF QG fN CD]
    exact ⟨fun h=>WY f1 (CK (by decide+kernel)) h,fun h=>by rw [h]⟩
   ·intro h
    rw [<-oE] at h;rw [aCG QG fN CD (WY f1 (CK (by decide+kernel)) h)];exact oE
  have U0:n3=k:=by rw [<-HS.o.1,hss,lB,iG];exact j_.o
  have X5:n4=k:=by rw [<-HR.o.1,hrr,lB,iD];exact j_.o
  subst U0;subst X5;have L0:=lH hN5;have SZ:=lH (fY (zQ (sN iX).1) h8);clear hE0 hss hsf hrr iX fN hL5 QG hrf SB HC4 HC5 JY VZ WP hN5
  go_wp2_with fail
  go_loopw [76] (fun v76 wr=>∃ i:Nat,i<=n4/\v76=.int .i64 i/\Below w5.heap.size w5 wr) (fun v76 _=>n4-(intOf v76).toNat)
  case atStart=>exact ⟨0,by omega,rfl,bR⟩
  case round=>
   obtain ⟨i,hi,rfl,hw⟩:=hrel;have iP:=lH hw;clear hw
   by_cases aW:i<n4
   ·obtain ⟨s,r,hs,hr,gW,U_,hcr,aAv⟩:=aXp.o i aW
    obtain ⟨sb,so,hA3,mU⟩:=HS.o.form (by omega);subst hA3;obtain ⟨rb,ro,hA4,zW⟩:=HR.o.form (by omega);subst hA4;have c0:=(HS.o.below iP.o lR).at_ hs;have fT:(i:Int)<(n4:Int):=by omega
    have kF:=lZ i
    have qW:=kU i;have U5:(n4:Int)<=7:=by omega
    have l_:=lN i;have jW:Hid (n4-(i+1)<n4-i):=lH (by omega);have CA:sb<wr.heap.size:=jO mU iP.o.size;have c2:=(HR.o.below iP.o lR).at_ hr;have rX:rb<wr.heap.size:=jO zW iP.o.size;have hcd:decide (D6 s ⟨#[48]⟩<0)=false:=decide_eq_false (by omega);have dW:=lH gW;clear U_ gW hs hr;generalize oE:D6 s ⟨#[48]⟩=z at *
    by_cases lG:i∈L5
    ·have m_:(s.toList == [48])=true:=by rw [l48];exact sK.2 (hcr.2 lG)
     have mV:(r.toList == [48])=true:=by rw [l48];exact sK.2 (aAv (hcr.2 lG))
     have aNK:Hid ((dZ L5).any (· == (i:Int))=true):=lH (PS.2 lG);clear hcr aAv lG
     go_upto_region 16 with fail
     refine aJ (S:=fun w'=>Below wr.heap.size wr w') 30 _ (by kernel_rfl) (by kernel_rfl) rfl (aD bR) (fun hHeld=>?_);simp only [lA,List.take_zero];refine aL 0 rfl ?_;refine aL 1 rfl ?_;refine aL 2 rfl ?_;refine aL 3 rfl ?_;have yI:=lH (aD (Below.refl wr.heap.size wr));generalize wr.drew=v0 at *;refine aU 4 (by kernel_rfl) rfl (fun K hK=>?_);go_simp;refine (RG s ⟨#[48]⟩ dW.o (by decide+kernel) v0 ((HT.o.up iP.o).up yI.o)).mono ?_;rintro e v1 ⟨rfl,bH⟩;have mZ:Hid (Below wr.heap.size wr v1):=lH (yI.o.tm bH);clear bH yI;go_simp;refine hK.out _ _ ?_ (fun hHeld=>?_)
     ·exact mZ.o
     clear hK K
     try simp only [Act.put,bP,bO,bN]
     refine aL 5 rfl ?_;refine aL 6 rfl ?_;refine aL 7 rfl ?_;refine aL 8 rfl ?_;refine aL 9 rfl ?_;refine aL 10 rfl ?_;refine aL 11 rfl ?_;refine aL 12 rfl ?_;refine aL 13 rfl ?_;refine aU 14 (by kernel_rfl) rfl (fun K hK=>?_);go_simp;refine (GR A5 N5 c5 (dZ L5) (i:Int) v1 ((HI.o.below (iP.o.tm mZ.o) lR).more (iP.o.tm mZ.o).size) (by have:=L0.o;omega)).mono ?_;rintro e v2 ⟨rfl,rfl⟩;rw [aNK.o];go_simp;refine hK.out _ _ ?_ (fun hHeld=>?_)
     ·exact mZ.o
     clear hK K
     try simp only [Act.put,bP,bO,bN]
     refine aL 15 rfl ?_;refine aL 16 rfl ?_;refine aL 17 rfl ?_;refine aL 18 rfl ?_;refine aL 19 rfl ?_;refine aL 20 rfl ?_;refine aL 21 rfl ?_;refine aL 22 rfl ?_;refine aL 23 rfl ?_;refine aL 24 rfl ?_;refine aL 25 rfl ?_;refine aL 26 rfl ?_;refine aL 27 rfl ?_;refine aL 28 rfl ?_;refine aL 29 rfl ?_;refine wpAnyH_done (by kernel_rfl) ?_ _;refine aP (by rfl) ?_;clear hHeld c0 c2 CA rX
     go_wp2_with fail
     go_roundw
     case rel=>exact ⟨i+1,aW,aQ l_.o,iP.o.tm mZ.o⟩
     case measure=>exact jW.o
    ·have m_:(s.toList == [48])=false:=by rw [l48];exact BK.2 (fun e=>lG (hcr.1 e))
     have aNK:Hid ((dZ L5).any (· == (i:Int))=false):=lH (by
      rw [Bool.eq_false_iff];exact fun e=>lG (PS.1 e))
     clear hcr aAv lG
     go_upto_region 16 with fail
     refine aJ (S:=fun w'=>Below wr.heap.size wr w') 30 _ (by kernel_rfl) (by kernel_rfl) rfl (aD bR) (fun hHeld=>?_);simp only [lA,List.take_zero];refine aL 0 rfl ?_;refine aL 1 rfl ?_;refine aL 2 rfl ?_;refine aL 3 rfl ?_;have yI:=lH (aD (Below.refl wr.heap.size wr));generalize wr.drew=v0 at *;refine aU 4 (by kernel_rfl) rfl (fun K hK=>?_);go_simp;refine (RG s ⟨#[48]⟩ dW.o (by decide+kernel) v0 ((HT.o.up iP.o).up yI.o)).mono ?_;rintro e v1 ⟨rfl,bH⟩;have mZ:Hid (Below wr.heap.size wr v1):=lH (yI.o.tm bH);clear bH yI;go_simp;refine hK.out _ _ ?_ (fun hHeld=>?_)
     ·exact mZ.o
     clear hK K
     try simp only [Act.put,bP,bO,bN]
     refine aL 5 rfl ?_;refine aL 6 rfl ?_;refine aL 7 rfl ?_;refine aL 8 rfl ?_;refine aL 9 rfl ?_;refine aL 10 rfl ?_;refine aL 11 rfl ?_;refine aL 12 rfl ?_;refine aL 13 rfl ?_;refine aU 14 (by kernel_rfl) rfl (fun K hK=>?_);go_simp;refine (GR A5 N5 c5 (dZ L5) (i:Int) v1 ((HI.o.below (iP.o.tm mZ.o) lR).more (iP.o.tm mZ.o).size) (by have:=L0.o;omega)).mono ?_;rintro e v2 ⟨rfl,rfl⟩;rw [aNK.o];go_simp;refine hK.out _ _ ?_ (fun hHeld=>?_)
     ·exact mZ.o
     clear hK K
     try simp only [Act.put,bP,bO,bN]
     refine aL 15 rfl ?_;refine aL 16 rfl ?_;refine aL 17 rfl ?_;refine aL 18 rfl ?_;refine aL 19 rfl ?_;refine aL 20 rfl ?_;refine aL 21 rfl ?_;refine aL 22 rfl ?_;refine aL 23 rfl ?_;refine pE 24 rfl (by kernel_rfl) (fun _ _ _ h=>h) (by rfl) hHeld ?_
     try simp only [Act.put,bP,bO,bN]
     refine pE 25 rfl (by kernel_rfl) (fun _ _ _ h=>h) (by rfl) hHeld ?_
     try simp only [Act.put,bP,bO,bN]
     refine pE 26 rfl (by kernel_rfl) (fun _ _ _ h=>h) (by rfl) hHeld ?_
     try simp only [Act.put,bP,bO,bN]
     refine pE 27 rfl (by kernel_rfl) (fun _ _ _ h=>h) (by rfl) hHeld ?_
     try simp only [Act.put,bP,bO,bN]
     refine pE 28 rfl (by kernel_rfl) (fun _ _ _ h=>h) (by rfl) hHeld ?_
     try simp only [Act.put,bP,bO,bN]
     refine aL 29 rfl ?_;refine wpAnyH_done (by kernel_rfl) ?_ _;refine aP (by rfl) ?_;clear hHeld c0 c2 CA rX
     go_wp2_with fail
     go_roundw
     case rel=>exact ⟨i+1,aW,aQ l_.o,iP.o.tm mZ.o⟩
     case measure=>exact jW.o
   ·have fT:¬(i:Int)<(n4:Int):=by omega
    go_wp2_with fail
    go_ret;exact ⟨rfl,dX.o.tm iP.o⟩
end

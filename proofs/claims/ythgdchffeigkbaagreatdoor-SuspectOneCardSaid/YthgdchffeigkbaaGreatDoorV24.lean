import Derived.Test.YthgdchffeigkbaaGreatDoorV21
import Derived.Test.YthgdchffeigkbaaGreatDoorV22
set_option linter.unusedVariables false
set_option linter.unusedSimpArgs false
namespace Go.Proofs.YthgdchffeigkbaaGreatDoor
set_option maxHeartbeats 4000000
set_option maxRecDepth 100000
variable {M : List (List Rat)} {b i j k n : Nat} {ms : List Mi} {v : Value} {w w' : World} {x : bO}
section
open Go.ChangeShapes Go.WideShapes Go.ChangeAt Go.RowKit
attribute [local go_sem ↓] aE
attribute [local go_sem] aJ aI aM aR
def ent(A:List (List Rat))(a b:Nat):Rat:=vf (A.getD a []) b
theorem ID{A:List (List Rat)}{a:Nat}{r:List Rat}(h:A[a]?=some r):ent A a b=vf r b:=by
 unfold ent;rw[dN,h];rfl
theorem aIw{l:List Rat}{q:Rat}(hj:j<l.length):vf (l.set j q) b=if b=j then q else vf l b:=by
 unfold vf;rw[dN,dN,List.getElem?_set];by_cases h:j=b
 ·subst h;rw[if_pos rfl,if_pos hj,if_pos rfl];rfl
 ·rw[if_neg h,if_neg (fun e=>h e.symm)]
theorem aKa{A:List (List Rat)}{q:Rat}(hl:A.length=n)(hw:∀a∈A,a.length=n)(hi:i<n)(hj:j<n)(a b:Nat):ent (fK A i j q) a b=if a=i/\b=j then ent A a b+q else ent A a b:=by
 obtain⟨r,hr⟩:∃r,A[i]?=some r:=eA (by omega);have w_:=hw r (bV hr);rw[gT hr];unfold ent;rw[dN,dN,List.getElem?_set];by_cases h:i=a
 ·subst h
  rw[if_pos rfl,if_pos (by omega),hr];show vf (r.set j (vf r j+q)) b=_;rw[aIw (by omega)];by_cases h2:b=j
  ·subst h2;rw[if_pos rfl,if_pos ⟨rfl,rfl⟩];rfl
  ·rw[if_neg h2,if_neg (fun e=>h2 e.2)];rfl
 ·rw[if_neg h,if_neg (fun e=>h e.1.symm)]
structure pC (n K:Nat) (wt:Rat) (q:List Rat) (A0 A:List (List Rat)) (i j:Nat):Prop where
 old:fM n K A0
 len:A.length=n
 wid:∀a∈A,a.length=n
 val:∀a b,a<n->b<n->ent A a b=ent A0 a b+(if a<i\/(a=i/\b<j) then wt*vf q a*vf q b else 0)
section
variable {n K i j:Nat} {wt:Rat} {q:List Rat} {A0 A:List (List Rat)}
theorem pC.start(h:fM n K A0):pC n K wt q A0 A0 0 0:=⟨h,h.len,h.wid,fun a b _ _=>by rw[if_neg (by omega),Rat.add_zero]⟩
theorem pC.row(h:pC n K wt q A0 A i n):pC n K wt q A0 A (i+1) 0:=⟨h.old,h.len,h.wid,fun a b ha hb=>by
 rw[h.val a b ha hb];by_cases h1:a<i\/(a=i/\b<n)
 ·rw[if_pos h1,if_pos (by omega)]
 ·rw[if_neg h1,if_neg (by omega)]⟩
theorem pC.add(h:pC n K wt q A0 A i j)(hi:i<n)(hj:j<n):pC n K wt q A0 (fK A i j (wt*vf q i*vf q j)) i (j+1):=
 ⟨h.old,NX.trans h.len,NW h.wid (by rw[h.len];exact hi),fun a b ha hb=>by
  rw[aKa h.len h.wid hi hj,h.val a b ha hb];by_cases h1:a=i/\b=j
  ·rw[if_pos h1,if_neg (by omega),if_pos (by omega),h1.1,h1.2,Rat.add_zero]
  ·rw[if_neg h1]
   by_cases h2:a<i\/(a=i/\b<j)
   ·rw[if_pos h2,if_pos (by omega)]
   ·rw[if_neg h2,if_neg (by omega)]⟩
theorem pC.skip(h:pC n K wt q A0 A i j)(h0:vf q i=0\/vf q j=0):pC n K wt q A0 A i (j+1):=
 ⟨h.old,h.len,h.wid,fun a b ha hb=>by
  rw[h.val a b ha hb];by_cases h1:a=i/\b=j
  ·rw[if_neg (by omega),if_pos (by omega),h1.1,h1.2]
   rcases h0 with h0 | h0<;>rw[h0]<;>grind
  ·by_cases h2:a<i\/(a=i/\b<j)
   ·rw[if_pos h2,if_pos (by omega)]
   ·rw[if_neg h2,if_neg (by omega)]⟩
theorem pC.bd(h:pC n K wt q A0 A i j){e:Nat}(he:∀a b,a<n->b<n->bI (wt*vf q a*vf q b)<=e):fM n (K+e+1) A:=⟨h.len,h.wid,fun a ha x hx=>by
 obtain⟨i1,h1⟩:=List.mem_iff_getElem?.1 ha;obtain⟨j1,h2⟩:=List.mem_iff_getElem?.1 hx;have l1:=(dH.1 h1).1;have l2:=(dH.1 h2).1;rw[h.len] at l1;rw[h.wid a ha] at l2;have hv:=h.val i1 j1 l1 l2;rw[ID h1,fW h2] at hv;obtain⟨r,hr⟩:∃r,A0[i1]?=some r:=eA (by rw[h.old.len];exact l1);have h3:=h.old.bd.vf hr (j:=j1) (by rw[h.old.wid r (bV hr)];exact l2);rw[ID hr] at hv;rw[hv];by_cases h4:i1<i\/(i1=i/\j1<j)
 ·rw[if_pos h4]
  have h5:=lG (vf r j1) (wt*vf q i1*vf q j1);have h6:=he i1 j1 l1 l2;omega
 ·rw[if_neg h4,Rat.add_zero]
  omega⟩
end
def LD(ms:List Mi):Fn:=fun k=>match ms[k]? with | some m=>(m.wt:Rat) | none=>0
theorem N4{m:Mi}(h:ms[k]?=some m):LD ms k=(m.wt:Rat):=by unfold LD;rw[h]
def ER(M:List (List Rat))(ms:List Mi)(k a b:Nat):Rat:=aN k fun t=>LD ms t*vf (M.getD t []) a*vf (M.getD t []) b
end
section
theorem I9:∀(s:Nat) {M:List (List Rat)} {N k b:Nat} {piv:List Nat},(∀a∈M,a.length=N)->k+s<=N->Bd b M->Bd (4^s*b) (oV s M piv k).1
 | 0,M,N,k,b,piv,hw,hk,h=>by rw[Nat.pow_zero,Nat.one_mul];exact h
 | s+1,M,N,k,b,piv,hw,hk,h=>by
  unfold oV;have XI:0<4^(s+1):=Nat.pow_pos (by decide);have FQ:b<=4^(s+1)*b:=Nat.le_mul_of_pos_left _ XI;by_cases hl:piv.length<M.length
  ·rw[if_pos hl]
   by_cases hp:oW M piv.length k=M.length
   ·rw[if_pos hp]
    exact(I9 s hw (by omega) h).mono (Nat.mul_le_mul_right _ (Nat.pow_le_pow_right (by decide) (Nat.le_succ _)))
   ·rw[if_neg hp]
    obtain⟨Rp,hRp,hd⟩:=xY (pJ hl) hp;obtain⟨Rr,hRr⟩:∃Rr,M[piv.length]?=some Rr:=⟨_,iB hl⟩;have h1:=aGW h hw hRr hRp (k:=k) (by omega);have h2:=I9 s (piv:=piv++[k]) (k:=k+1) (NP hw hRr hRp) (by omega) h1;rw[<-Nat.mul_assoc,<-Nat.pow_succ] at h2;exact h2
  ·rw[if_neg hl]
   exact h.mono FQ
theorem W7(hw:∀a∈M,a.length=M.length)(h:Bd b M)(hb:3<=b):Bd (4^M.length*b) (mV M):=fun a ha x hx=>by
 unfold mV at ha;obtain⟨r,hr,rfl⟩:=List.mem_map.1 ha;exact I9 M.length (xG hw) (by omega) (aAx h hb) r hr x (List.mem_of_mem_drop hx)
def dU(n:Nat)(M:List (List Rat))(ms:List Mi):List (List Rat):=(List.range n).map fun a=>(List.range n).map fun b=>ER M ms M.length a b
theorem cL:(dU n M ms).length=n:=by simp[dU]
def yY(x:bO)(m:Mi):Rat:=(m.wt:Rat)*(gC m.txt-(aS x m).2)
def EG(x:bO)(ms:List Mi):Fn:=fun k=>match ms[k]? with | some m=>yY x m | none=>0
theorem CU{m:Mi}(h:ms[k]?=some m):EG x ms k=yY x m:=by unfold EG;rw[h]
def mT(n:Nat)(x:bO)(ms:List Mi)(k:Nat):List Rat:=(List.range n).map fun i=>aN k fun t=>EG x ms t*vf ((aV x ms).getD t []) i
theorem fO:(mT n x ms k).length=n:=by simp[mT]
theorem BR(hi:i<n):vf (mT n x ms k) i=aN k fun t=>EG x ms t*vf ((aV x ms).getD t []) i:=by
 apply fW;unfold mT;rw[iY,List.getElem?_range hi];rfl
def qO(F:List Nat)(d:Fn)(z:List Rat):Nat->List Rat
 | 0=>z
 | k+1=>(qO F d z k).set (F.getD k 0) (d k)
theorem oX{F:List Nat}{d:Fn}{z:List Rat}:∀k,(qO F d z k).length=z.length
 | 0=>rfl
 | k+1=>by unfold qO;rw[lS,oX k]
def nY(x:bO)(ms:List Mi):Fn:=fun i=>jJ ((mV (dU (aA x).length (aV x ms) ms)).getD i []) (mT (aA x).length x ms ms.length)
def bE(x:bO)(ms:List Mi):List Rat:=qO (aA x) (nY x ms) (jN (aH x)) (aA x).length
def aQ(x:bO)(ms:List Mi)(al:List Rat):List Rat:=ms.map fun m=>gC m.txt-(jJ (aS x m).1 al+(aS x m).2)
def mX(x:bO)(ms:List Mi):Prop:=Reg (dU (aA x).length (aV x ms) ms)
end
section
open Go.ChangeShapes Go.WideShapes Go.ChangeAt Go.RowKit
attribute [local go_sem ↓] aE
attribute [local go_sem] aJ aI aM aR
def aMY(x:bO)(w:Wo)(e:Ending)(w':Wo):Prop:=Below w.heap.size w w'/\((b_ x≠0/\e=.returned (.tuple #[.slice none 0 0,.int .i64 (b_ x)]))\/(b_ x=0/\∃A c,e=.returned (.tuple #[.slice A (aA x).length c,.int .i64 0])/\o_ w' w'.heap.size A (aA x).length (d9 (aA x))))
theorem TB(h:bY)(x:bO)(h8:x.nodes.length<=8)(w:Wo)(r:cQ w w.heap.size h x):Calls Tryz.prog 29 #[.agg h.cells] w (aMY x w):=by
 have K0:=jT w (.cells h.cells 29);obtain⟨HK,P0,HX⟩:=d_ K0 (aG.new w 29 h.cells) (r.up K0);have dZ:Hid (w.heap.size<=(w.alloc (.cells h.cells 29)).heap.size):=lH K0.size;have bU:Hid (b_ x=0->bJ x):=lH lW;have HFP:Hid (∀e w',aMY x w e w'<->(Below w.heap.size w w'/\((b_ x≠0/\e=.returned (.tuple #[.slice none 0 0,.int .i64 (b_ x)]))\/(b_ x=0/\∃A c,e=.returned (.tuple #[.slice A (aA x).length c,.int .i64 0])/\o_ w' w'.heap.size A (aA x).length (d9 (aA x)))))):=lH fun e w'=>Iff.rfl;have z7:=lH (tM h x (w.alloc (.cells h.cells 29)) HX.o);generalize b_ x=ck at *;clear K0 r;obtain⟨D0,r0,s0,D1,r1,s1,D2,r2,s2,D3,r3,s3,D4,r4,s4,D5,r5,s5⟩:=h;obtain⟨y0,y1,y2,y3,y4,y5,nf,nlt⟩:=aW P0.o;dsimp only at y0 y1 y2 y3 y4 y5;go_enter Tryz.func29,Tryz.ntmps29
 go_wp2_with fail
 generalize w.alloc (.cells (bY.cells ⟨D0,r0,s0,D1,r1,s1,D2,r2,s2,D3,r3,s3,D4,r4,s4,D5,r5,s5⟩) 29)=W at *;refine z7.o.mono ?_;rintro e w1 ⟨rfl,bC⟩;have bT:=lH bC;clear bC y0 y1 y2 y3 y4 y5 nf nlt z7;by_cases h0:ck=0
 ·subst h0
  have P1:=P0.o.bl bT.o;obtain⟨y0,y1,y2,y3,y4,y5,nf,nlt⟩:=aW P1;dsimp only at y0 y1 y2 y3 y4 y5;clear P1;(go_wp2_with fail);refine(nX _ x (bU.o (by simp)) h8 w1 (HX.o.up bT.o)).mono ?_;rintro e w2 ⟨bH,g,m,A7,n7,c7,rfl,hg,dC,rC,-⟩;have cH:=lH (HK.o.trans ((bT.o.tm bH).mono dZ.o));have E8:Hid ((aA x).length=m.n6):=lH (by rw[<-e_];exact rC.r6.len);have H6:=lH rC.r6;have g6:w2.cell? ⟨g,6,none⟩=some (.slice m.A6 m.n6 m.c6):=dC.cell 6;have gl:=dC.lt;clear bH hg dC rC y0 y1 y2 y3 y4 y5 nf nlt;(go_wp2_with fail);refine bodyPost_ret (v:=.tuple #[.slice m.A6 m.n6 m.c6,.int .i64 0]) (by simp[results,Tryz.results29,go_sem]) rfl ?_;rw[HFP.o];exact⟨cH.o,.inr ⟨by simp,m.A6,m.c6,by rw[E8.o],by rw[E8.o];exact H6.o⟩⟩
 ·have hb:(ck != 0)=true:=by simp[h0]
  (go_wp2_with fail);refine bodyPost_ret (v:=.tuple #[.slice none 0 0,.int .i64 ck]) (by simp[results,Tryz.results29,go_sem]) rfl ?_;rw[HFP.o];exact⟨HK.o.trans (bT.o.mono dZ.o),.inl ⟨h0,rfl⟩⟩
structure Vb (w:Wo) (gc:Nat) (vs:List Rv) (q:List Rat):Prop where
 row:∃cs,aG w gc 115 cs/\cs.toList.take (q.length*4)=fX vs
 len:vs.length=q.length
 ok:lI w vs q
section
variable {w w':Wo} {gc:Nat} {vs:List Rv} {q:List Rat}
theorem Vb.lt(f:Vb w gc vs q):gc<w.heap.size:=by obtain⟨cs,h1,h2⟩:=f.row;exact h1.lt
theorem Vb.up(f:Vb w gc vs q)(hb:Below w.heap.size w w'):Vb w' gc vs q:=by
 obtain⟨cs,h1,h2⟩:=f.row;exact⟨⟨cs,h1.bl hb,h2⟩,f.len,f.ok.up hb⟩
theorem Vb.elem(f:Vb w gc vs q)(hj:j<q.length):∃x,vs[j]?=some x/\w.cell? ⟨gc,j*4,none⟩=some (.bool x.b1)/\w.cell? ⟨gc,j*4+1,none⟩=some (.slice x.A x.n x.c)/\w.cell? ⟨gc,j*4+2,none⟩=some (.bool x.b2)/\w.cell? ⟨gc,j*4+3,none⟩=some (.slice x.A2 x.m x.d)/\gc<w.heap.size/\(∀o,w.frozen? ⟨gc,o,none⟩=false):=by
 obtain⟨cs,h1,h2⟩:=f.row;obtain⟨x,hx⟩:∃x,vs[j]?=some x:=eA (by rw[f.len];exact hj);obtain⟨c0,c1,c2,c3⟩:=h1.row_cell h2 hx;exact⟨x,hx,c0,c1,c2,c3,h1.lt,h1.frozen⟩
theorem Vb.val(f:Vb w gc vs q)(hj:j<q.length){x:Rv}(hx:vs[j]?=some x):dD w w.heap.size (vf q j) x:=f.ok j _ x (a_ hj) hx
theorem Vb.keep(f:Vb w gc vs q)(hj:j<q.length){x y:Rv}{p:Rat}(hy:dD w w.heap.size p y):dD (eO w gc j x) (eO w gc j x).heap.size p y:=by
 obtain⟨cs,h1,h2⟩:=f.row;obtain⟨x0,hx⟩:∃x,vs[j]?=some x:=eA (by rw[f.len];exact hj);exact dD.keep4 hy x h1 h2 hx
theorem Vb.put(f:Vb w gc vs q)(hj:j<q.length){x:Rv}{p:Rat}(hx:dD w w.heap.size p x):Vb (eO w gc j x) gc (vs.set j x) (q.set j p):=by
 obtain⟨cs,h1,h2⟩:=f.row;obtain⟨cs',k1,k2⟩:=h1.row_put x h2 f.len hj;refine⟨⟨cs',k1,by rw[lS];exact k2⟩,by simp[f.len],fun i p' y hp hy=>?_⟩;rw[List.getElem?_set] at hp hy;by_cases tE:j=i
 ·subst tE
  rw[if_pos rfl,if_pos hj] at hp;rw[if_pos rfl,if_pos (by rw[f.len];exact hj)] at hy;injection hp with hp;injection hy with hy;subst hp;subst hy;exact f.keep hj hx
 ·rw[if_neg tE] at hp hy
  exact f.keep hj (f.ok i p' y hp hy)
theorem Vb.rdq(f:Vb w gc vs q):iT w w.heap.size (some ⟨gc,0,none⟩) q.length q:=by
 obtain⟨cs,h1,h2⟩:=f.row;refine⟨vs,f.len,rfl,⟨by rw[eD,f.len],fun hn=>⟨gc,0,rfl,h1.lt,fun i v hv=>?_⟩⟩,f.ok⟩;rw[Nat.zero_add,h1.cell];rw[<-h2] at hv;rw[List.getElem?_take] at hv;split at hv
 ·rwa[Array.getElem?_toList] at hv
 ·cases hv
end
theorem N8{gc:Nat}{v:Rv}(hc:aG w gc 115 (fX (List.replicate n v)).toArray)(hv:dD w w.heap.size 0 v):Vb w gc (List.replicate n v) (jN n):=by
 refine⟨⟨_,hc,?_⟩,by simp[jN],fun i p x hp hx=>?_⟩
 ·have hl:(fX (List.replicate n v)).length=n*4:=(eD _).trans (by rw[rB])
  rw[jN,rB];exact nL (Nat.le_of_eq hl)
 ·unfold jN at hp
  rw[List.getElem?_replicate] at hp hx;split at hp
  ·rename_i h
   rw[if_pos h] at hx;rw[<-Option.some.inj hp,<-Option.some.inj hx];exact hv
  ·cases hp
section
variable {w:Wo} {g T:Nat} {cs:Array Value} {i:Nat} {u y:Value}
end
section
variable {w w':Wo} {gc gz:Nat} {vs us:List Rv} {q p:List Rat}
theorem Vb.far(f:Vb w gc vs q)(g:Vb w gz us p){x:Rv}(hj:j<p.length)(bX:gc≠gz):Vb (eO w gz j x) gc vs q:=by
 obtain⟨cs,h1,h2⟩:=f.row;exact⟨⟨cs,h1.far4 x bX,h2⟩,f.len,fun i t v ht hv=>g.keep hj (f.ok i t v ht hv)⟩
theorem Vb.keeps{base e:Nat}(f:Vb w gc vs q)(k:d8 rF base e w w')(he:115≠e):Vb w' gc vs q:=by
 obtain⟨cs,h1,h2⟩:=f.row;exact⟨⟨cs,k.blk _ _ _ h1 he,h2⟩,f.len,fun i t v ht hv=>(f.ok i t v ht hv).keeps k⟩
end
structure Fh where
 gc:Nat
 u:Rv
def Fh.cells(n:Nat)(f:Fh):List Value:=[.slice (some ⟨f.gc,0,none⟩) n n,.bool f.u.b1,.slice f.u.A f.u.n f.u.c,.bool f.u.b2,.slice f.u.A2 f.u.m f.u.d]
theorem Fh.cells_len(f:Fh):(Fh.cells n f).length=5:=rfl
structure gI (w:Wo) (base n:Nat) (v:Value) (fs:List Fh) (ps:List (List Rat×Rat)):Prop where
 own:bK rF w base 117 5 v fs.length (fs.flatMap (Fh.cells n))
 len:fs.length=ps.length
 ok:∀(i:Nat)(f:Fh)(p:List Rat×Rat),fs[i]?=some f->ps[i]?=some p->base<=f.gc/\p.1.length=n/\(∃vs,Vb w f.gc vs p.1)/\dD w w.heap.size p.2 f.u
theorem gI.keep{base:Nat}{fs:List Fh}{ps:List (List Rat×Rat)}(m:gI w base n v fs ps)(hb:Below w.heap.size w w'):gI w' base n v fs ps:=⟨m.own.keep hb,m.len,fun i f p hf hp=>by
 obtain⟨h1,h2,⟨vs,h3⟩,h4⟩:=m.ok i f p hf hp;exact⟨h1,h2,⟨vs,h3.up hb⟩,h4.up hb⟩⟩
theorem gI.far{base gz:Nat}{fs:List Fh}{ps:List (List Rat×Rat)}{us:List Rv}{q:List Rat}{x:Rv}(m:gI w base n v fs ps)(g:Vb w gz us q)(hj:j<q.length)(hz:gz<base):gI (eO w gz j x) base n v fs ps:=⟨by
 obtain⟨cs,h1,h2⟩:=g.row;exact m.own.far4 h1 (by decide),m.len,fun i f p hf hp=>by
 obtain⟨h1,h2,⟨vs,h3⟩,h4⟩:=m.ok i f p hf hp;exact⟨h1,h2,⟨vs,h3.far g hj (by omega)⟩,g.keep hj h4⟩⟩
theorem gI.app{base:Nat}{v':Value}{fs:List Fh}{ps:List (List Rat×Rat)}{f:Fh}{p:List Rat×Rat}(m:gI w base n v fs ps)(hf:base<=f.gc/\p.1.length=n/\(∃vs,Vb w f.gc vs p.1)/\dD w w.heap.size p.2 f.u)(h1:bK rF w' base 117 5 v' (fs.length+1) (fs.flatMap (Fh.cells n)++Fh.cells n f))(k:d8 rF base 117 w w'):gI w' base n v' (fs++[f]) (ps++[p]):=by
 have key:∀{f:Fh}{p:List Rat×Rat},(base<=f.gc/\p.1.length=n/\(∃vs,Vb w f.gc vs p.1)/\dD w w.heap.size p.2 f.u)->(base<=f.gc/\p.1.length=n/\(∃vs,Vb w' f.gc vs p.1)/\dD w' w'.heap.size p.2 f.u):=fun h=>by
  obtain⟨h1,h2,⟨vs,h3⟩,h4⟩:=h;exact⟨h1,h2,⟨vs,h3.keeps k (by decide)⟩,h4.keeps k⟩
 refine⟨by rw[jW,List.length_singleton,List.flatMap_append];simpa using h1,by rw[jW,jW,m.len];rfl,fun i f2 p2 uM K6=>?_⟩;by_cases hi:i<ps.length
 ·rw[BD hi] at K6
  rw[BD (by rw[m.len];exact hi)] at uM;exact key (m.ok i f2 p2 uM K6)
 ·rw[DN (by omega)] at K6
  rw[DN (by rw[m.len];omega),m.len] at uM;have IA:=(dH.1 K6).1;rw[List.length_singleton] at IA;have:i-ps.length=0:=by omega
  rw[this] at K6 uM;simp at K6 uM;subst K6;subst uM;exact key hf
end
section
open Go.ChangeShapes Go.WideShapes Go.ChangeAt Go.RowKit
section
variable {w:Wo} {gc g T i n base:Nat} {vs:List Rv} {q:List Rat} {cs:Array Value} {y u v:Value} {fs:List Fh} {ps:List (List Rat×Rat)}
theorem gI.at_{p:List Rat×Rat}(m:gI w base n v fs ps)(hp:ps[k]?=some p):∃(fb c:Nat)(f:Fh),v=.slice (some ⟨fb,0,none⟩) ps.length c/\fb<w.heap.size/\(w.cell? ⟨fb,k*5,none⟩=some (.slice (some ⟨f.gc,0,none⟩) n n)/\w.cell? ⟨fb,k*5+1,none⟩=some (.bool f.u.b1)/\w.cell? ⟨fb,k*5+2,none⟩=some (.slice f.u.A f.u.n f.u.c)/\w.cell? ⟨fb,k*5+3,none⟩=some (.bool f.u.b2)/\w.cell? ⟨fb,k*5+4,none⟩=some (.slice f.u.A2 f.u.m f.u.d))/\(∃vs,Vb w f.gc vs p.1)/\p.1.length=n/\dD w w.heap.size p.2 f.u/\∃cur,aG w fb 117 cur:=by
 have hk:=(dH.1 hp).1;obtain⟨f,hf⟩:∃f,fs[k]?=some f:=eA (by rw[m.len];exact hk);obtain⟨a,b,c,d⟩:=m.ok k f p hf hp;rcases m.own.2 with⟨-,h0⟩ | ⟨fb,cap,cur,h1,h2,h3,h4,h5,h6,h7,-⟩
 ·have:=m.len;omega
 ·have key:∀j y,j<5->(Fh.cells n f)[j]?=some y->w.cell? ⟨fb,k*5+j,none⟩=some y:=fun j y hj hy=>by
   rw[h3.cell];have:=lC (fun f:Fh=>(Fh.cells_len f:(Fh.cells n f).length=5)) fs k f hf j hj;rw[hy,<-h7,List.getElem?_take] at this;split at this
   ·rwa[Array.getElem?_toList] at this
   ·cases this
  exact⟨fb,cap,f,by rw[<-m.len];exact h1,h3.lt,⟨key 0 _ (by decide) rfl,key 1 _ (by decide) rfl,key 2 _ (by decide) rfl,key 3 _ (by decide) rfl,key 4 _ (by decide) rfl⟩,c,b,d,cur,h3⟩
end
structure UnM (gf:Nat) (w0 w:Wo):Prop where
 forms:∀{base n:Nat}{v:Value}{fs:List Fh} {ps:List (List Rat×Rat)},gI w0 base n v fs ps->gI w base n v fs ps
 mat:∀{A:OA}{n:Nat} {M:List (List Rat)},lQ w0 w0.heap.size A n M->(∀b off,A=some ⟨b,off,none⟩->b≠gf)->lQ w w.heap.size A n M
 row:∀{A:OA}{n:Nat}{q:List Rat},iT w0 w0.heap.size A n q->iT w w.heap.size A n q
 rows:∀{base:Nat}{v:Value}{hs:List Hd} {M:List (List Rat)},iS w0 base v hs M->iS w base v hs M
 vec:∀{gc:Nat}{vs:List Rv}{q:List Rat},Vb w0 gc vs q->Vb w gc vs q
def NoS(cs:Array Value):Prop:=∀(i:Nat)(u:Value),cs[i]?=some u->∀s,u≠.string s
structure UnP (gp:Nat) (w w':Wo):Prop where
 mat:∀{A:OA}{n:Nat} {M:List (List Rat)},lQ w w.heap.size A n M->(∀b off,A=some ⟨b,off,none⟩->b≠gp)->lQ w' w'.heap.size A n M
 row:∀{A:OA}{n:Nat}{q:List Rat},iT w w.heap.size A n q->iT w' w'.heap.size A n q
 ints:∀{A:OA}{n:Nat}{l:List Int},o_ w w.heap.size A n l->o_ w' w'.heap.size A n l
 strs:∀{A:OA}{n:Nat}{l:List ByteArray},aY w w.heap.size A n l->aY w' w'.heap.size A n l
 blk:∀{g T:Nat}{cs:Array Value},aG w g T cs->T≠95->aG w' g T cs
theorem UnP.trans{gp:Nat}{w1 w2:Wo}(a:UnP gp w w1)(b:UnP gp w1 w2):UnP gp w w2:=⟨fun h hA=>b.mat (a.mat h hA) hA,fun h=>b.row (a.row h),fun h=>b.ints (a.ints h),fun h=>b.strs (a.strs h),fun h ht=>b.blk (a.blk h ht) ht⟩
theorem iS.apart{base c g T:Nat}{A:OA}{hs:List Hd}{cs:Array Value}(m:iS w base (.slice A n c) hs M)(hb:aG w g T cs)(ht:93≠T):∀b off,A=some ⟨b,off,none⟩->b≠g:=fun b off e=>by
 rcases m.own.2 with⟨h0,-⟩ | ⟨g',cap,cur,h1,h2,h3,-⟩
 ·rw[e] at h0
  cases h0
 ·rw[e] at h1
  injection h1 with h1;injection h1 with h1;injection h1 with h1 h4;rw[h1];exact h3.apart hb ht
theorem iS.base{base c:Nat}{A:OA}{hs:List Hd}(m:iS w base (.slice A n c) hs M):∀b off,A=some ⟨b,off,none⟩->base<=b:=fun b off e=>by
 rcases m.own.2 with⟨h0,-⟩ | ⟨g',cap,cur,h1,h2,h3,-⟩
 ·rw[e] at h0
  cases h0
 ·rw[e] at h1
  injection h1 with h1;injection h1 with h1;injection h1 with h1 h4;rw[h1];exact h2
theorem Q9{o:Oper}{a:Act}{w:Wo}{K:Act->World->Prop}{Q:Exit->Act->World->Prop}(s x:Operand)(t:TypeId)(ho:o.op=.call { callee:=.builtin .append,args:=#[s,x],argTypes:=#[t,t] })(base:Nat)(ht:Tryz.prog.underlying t=some (.slice 115))(v:Value)(vs:List Rv)(qs:List Rat)(hs:a.eval s=v)(bB:dP w base v vs qs)(u:Rv)(q:Rat)(hq:dD w w.heap.size q u)(g T:Nat)(hx:a.eval x=.slice (some ⟨g,0,none⟩) 1 1)(hg:aG w g T #[.bool u.b1,.slice u.A u.n u.c,.bool u.b2,.slice u.A2 u.m u.d])(xC:qs.length<=1000000)(cS:base<=w.heap.size)(h:∀v' w',dP w' base v' (vs++[u]) (qs++[q])->d8 rF base 115 w w'->(∀g t cs,v.ownBlock≠some g->aG w g t cs->aG w' g t cs)->K (a.put o.dst v') w'):o.wp Tryz.prog a w K Q:=by
 obtain⟨i0,kA,rU,jR,kS⟩:=pW;have hl:=bB.len;exact tY (S:=rF) s x t ho base 115 i0 _ 4 64 ht kA rU jR kS rfl (by omega) wF v vs.length (fX vs) hs bB.own g T #[.bool u.b1,.slice u.A u.n u.c,.bool u.b2,.slice u.A2 u.m u.d] hx hg rfl (DZ u) (by simp only[maxLen];omega) (by omega) cS fun v' w' h1 h2 h3 h4=>h v' w' (dP.app bB hq h1 h2) h2 fun g2 t2 cs bX bH=>(h4 g2 bH.lt bX).trans bH
end
section
open Go.ChangeShapes Go.WideShapes Go.ChangeAt Go.RowKit
attribute [local go_sem ↓] aE
attribute [local go_sem] aJ aI aM aR
theorem G3(hi:i<n):∀{k:Nat},(∀t,t<k->bI (EG x ms t*vf ((aV x ms).getD t []) i)<=3000)->bI (vf (mT n x ms k) i)<=3001*k+2
 | 0,h=>by
  rw[BR hi];exact dV 0 (by decide) (by decide)
 | k+1,h=>by
  have ih:=G3 hi (k:=k) (fun t ht=>h t (by omega));rw[BR hi] at ih ⊢;simp only[aN];have h1:=lG (aN k fun t=>EG x ms t*vf ((aV x ms).getD t []) i) (EG x ms k*vf ((aV x ms).getD k []) i);have h2:=h k (by omega);omega
def YJ(q:Rat):Value->World->Prop:=fun v w=>∃r:Rv,v=.agg #[.bool r.b1,.slice r.A r.n r.c,.bool r.b2,.slice r.A2 r.m r.d]/\dD w w.heap.size q r
theorem YJ.up{q:Rat}(h:YJ q v w)(hb:Below w.heap.size w w'):YJ q v w':=by
 obtain⟨r,e,h1⟩:=h;exact⟨r,e,h1.up hb⟩
def tU(x:bO)(ms:List Mi)(B0:Nat)(w':Wo)(fv:Value):Prop:=∃(g:Nat)(m:iU)(y:Value)(A:OA)(c gi:Nat)(ga:Nat)(B:OA)(d:Nat),fv=.agg #[.pointer (some ⟨g,0,none⟩),.slice A ms.length c,.slice (some ⟨gi,0,none⟩) (aA x).length (aA x).length,.slice (some ⟨ga,0,none⟩) (aH x) (aH x),.slice B ms.length d]/\((∀b off,A=some ⟨b,off,none⟩->B0<=b)/\B0<=gi)/\aG w' g 122 (m.cells y)/\fB w' w'.heap.size m x/\lQ w' w'.heap.size A ms.length (aV x ms)/\lQ w' w'.heap.size (some ⟨gi,0,none⟩) (aA x).length (mV (dU (aA x).length (aV x ms) ms))/\iT w' w'.heap.size (some ⟨ga,0,none⟩) (aH x) (bE x ms)/\iT w' w'.heap.size B ms.length (aQ x ms (bE x ms))
theorem tU.up{B0:Nat}{fv:Value}(h:tU x ms B0 w fv)(hb:Below w.heap.size w w'):tU x ms B0 w' fv:=by
 obtain⟨g,m,y,A,c,gi,ga,B,d,e,h0,h1,h2,h3,h4,h5,h6⟩:=h;exact⟨g,m,y,A,c,gi,ga,B,d,e,h0,h1.bl hb,h2.up hb,h3.up hb,h4.up hb,(h5.below hb lR).more hb.size,(h6.below hb lR).more hb.size⟩
theorem tU.low{B0 B1:Nat}{fv:Value}(h:tU x ms B0 w fv)(hB:B1<=B0):tU x ms B1 w fv:=by
 obtain⟨g,m,y,A,c,gi,ga,B,d,e,h0,h1⟩:=h;exact⟨g,m,y,A,c,gi,ga,B,d,e,⟨fun b off e=>cO hB (h0.1 b off e),cO hB h0.2⟩,h1⟩
def rK(x:bO)(ms:List Mi)(c:Int):Prop:=(dJ x ms≠0/\c=dJ x ms)\/(dJ x ms=0/\¬mX x ms/\c=8)\/(dJ x ms=0/\mX x ms/\¬(∀q∈bE x ms,bP q)/\c=2)\/(dJ x ms=0/\mX x ms/\(∀q∈bE x ms,bP q)/\c=0)
theorem rK.zero{c:Int}(h:rK x ms c)(h0:c=0):dJ x ms=0/\mX x ms/\∀q∈bE x ms,bP q:=by
 rcases h with⟨h1,h2⟩ | ⟨h1,h2,h3⟩ | ⟨h1,h2,h3,h4⟩ | ⟨h1,h2,h3,h4⟩
 ·omega
 ·omega
 ·omega
 ·exact⟨h1,h2,h3⟩
theorem rK.one{c d:Int}(h:rK x ms c)(g:rK x ms d):c=d:=by
 rcases h with⟨h1,h2⟩ | ⟨h1,h2,h3⟩ | ⟨h1,h2,h3,h4⟩ | ⟨h1,h2,h3,h4⟩<;>rcases g with⟨g1,g2⟩ | ⟨g1,g2,g3⟩ | ⟨g1,g2,g3,g4⟩ | ⟨g1,g2,g3,g4⟩<;>first | omega | exact absurd g2 h2 | exact absurd h2 g2 | exact absurd g3 h3 | exact absurd h3 g3
def gS(x:bO)(al:List Rat):List Rat:=x.brs.map fun b=>cP b*(vf al (aD x b.fr)-vf al (aD x b.to))+eS b
theorem KG.low{base base':Nat}{hs:List Hd}{vss:List (List ByteArray)}(m:KG w base v hs vss)(h:base'<=base):KG w base' v hs vss:=⟨⟨m.own.1,by
 rcases m.own.2 with h1 | ⟨g,cap,cur,h1,h2,h3⟩
 ·exact .inl h1
 ·exact .inr ⟨g,cap,cur,h1,cO h h2,h3⟩⟩,m.len,m.rows⟩
end

import Derived.Test.YthgdchffeigkbaaGreatDoorV21
set_option linter.unusedVariables false
set_option linter.unusedSimpArgs false
namespace Go.Proofs.YthgdchffeigkbaaGreatDoor
set_option maxHeartbeats 1000000
variable {L : List Int} {j nb : Nat}
section
open Go.ChangeShapes Go.WideShapes Go.ChangeAt Go.RowKit
attribute [local go_sem ↓] aE
attribute [local go_sem] aJ aI aM aR
structure Cf (w:Wo) (gc:Nat) (vs:List Rv) (q:List Rat):Prop where
 row:∃cs,aG w gc 115 cs/\cs.toList.take (q.length*4)=fX vs
 len:vs.length=q.length
 ok:lI w vs q
section
variable {w w':Wo} {gc:Nat} {vs:List Rv} {q:List Rat}
theorem Cf.up(f:Cf w gc vs q)(hb:Below w.heap.size w w'):Cf w' gc vs q:=by
 obtain⟨cs,h1,h2⟩:=f.row;exact⟨⟨cs,h1.bl hb,h2⟩,f.len,f.ok.up hb⟩
theorem Cf.elem(f:Cf w gc vs q)(hj:j<q.length):∃x,vs[j]?=some x/\w.cell? ⟨gc,j*4,none⟩=some (.bool x.b1)/\w.cell? ⟨gc,j*4+1,none⟩=some (.slice x.A x.n x.c)/\w.cell? ⟨gc,j*4+2,none⟩=some (.bool x.b2)/\w.cell? ⟨gc,j*4+3,none⟩=some (.slice x.A2 x.m x.d)/\gc<w.heap.size/\(∀o,w.frozen? ⟨gc,o,none⟩=false):=by
 obtain⟨cs,h1,h2⟩:=f.row;obtain⟨x,hx⟩:∃x,vs[j]?=some x:=eA (by rw[f.len];exact hj);obtain⟨c0,c1,c2,c3⟩:=h1.row_cell h2 hx;exact⟨x,hx,c0,c1,c2,c3,h1.lt,h1.frozen⟩
theorem Cf.keep(f:Cf w gc vs q)(hj:j<q.length){x y:Rv}{p:Rat}(hy:dD w w.heap.size p y):dD (eO w gc j x) (eO w gc j x).heap.size p y:=by
 obtain⟨cs,h1,h2⟩:=f.row;obtain⟨x0,hx⟩:∃x,vs[j]?=some x:=eA (by rw[f.len];exact hj);exact dD.keep4 hy x h1 h2 hx
theorem Cf.put(f:Cf w gc vs q)(hj:j<q.length){x:Rv}{p:Rat}(hx:dD w w.heap.size p x):Cf (eO w gc j x) gc (vs.set j x) (q.set j p):=by
 obtain⟨cs,h1,h2⟩:=f.row;obtain⟨cs',k1,k2⟩:=h1.row_put x h2 f.len hj;refine⟨⟨cs',k1,by rw[lS];exact k2⟩,by simp[f.len],fun i p' y hp hy=>?_⟩;rw[List.getElem?_set] at hp hy;by_cases tE:j=i
 ·subst tE
  rw[if_pos rfl,if_pos hj] at hp;rw[if_pos rfl,if_pos (by rw[f.len];exact hj)] at hy;injection hp with hp;injection hy with hy;subst hp;subst hy;exact f.keep hj hx
 ·rw[if_neg tE] at hp hy
  exact f.keep hj (f.ok i p' y hp hy)
theorem Cf.rdq(f:Cf w gc vs q):iT w w.heap.size (some ⟨gc,0,none⟩) q.length q:=by
 obtain⟨cs,h1,h2⟩:=f.row;refine⟨vs,f.len,rfl,⟨by rw[eD,f.len],fun hn=>⟨gc,0,rfl,h1.lt,fun i v hv=>?_⟩⟩,f.ok⟩;rw[Nat.zero_add,h1.cell];rw[<-h2] at hv;rw[List.getElem?_take] at hv;split at hv
 ·rwa[Array.getElem?_toList] at hv
 ·cases hv
end
structure aOZ (w:Wo) (p7 p8 p9 g:Nat) (m:iU) (y:Value) (x:bO) (A:OA) (n c:Nat) (M:List (List Rat)):Prop where
 b7:aG w p7 90 #[.pointer (some ⟨g,0,none⟩)]
 b8:aG w p8 92 #[.slice A n c]
 b9:aG w p9 3 #[.int .i64 (aRp M:Int)]
 md:aG w g 122 (m.cells y)
 rd:fB w w.heap.size m x
 rm:lQ w w.heap.size A n M
theorem aOZ.up{w w':Wo}{p7 p8 p9 g n c:Nat}{m:iU}{y:Value}{x:bO}{A:OA}{M:List (List Rat)}(h:aOZ w p7 p8 p9 g m y x A n c M)(hb:Below w.heap.size w w'):aOZ w' p7 p8 p9 g m y x A n c M:=
 ⟨h.b7.bl hb,h.b8.bl hb,h.b9.bl hb,h.md.bl hb,h.rd.up hb,h.rm.up hb⟩
structure ArS (S:Nat->Nat->Bool) (nb b:Nat) (L:List Int):Prop where
 len:L.length=nb
 at_:∀k,k<b->L.getD k 0=((CV S b).1.getD k 0:Nat)
theorem ArS.start(S:Nat->Nat->Bool)(nb:Nat):ArS S nb 0 (List.replicate nb 0):=⟨rB,fun k h=>by omega⟩
theorem ArS.old{S:Nat->Nat->Bool}{b a:Nat}(h:ArS S nb b L)(hb:b<nb)(hf:(List.range b).find? (fun a=>S a b)=some a):ArS S nb (b+1) (L.set b (L.getD a 0)):=by
 have ha:a<b:=by simpa using List.mem_of_find?_eq_some hf
 refine⟨by rw[lS];exact h.len,fun k hk=>?_⟩;have e:(CV S (b+1)).1=(CV S b).1++[(CV S b).1.getD a 0]:=by rw[KE,hf]
 have hl:=IH S b;rw[e,dN,dN (l:=(CV S b).1++_),List.getElem?_set];by_cases hkb:k=b
 ·subst hkb
  rw[if_pos rfl,if_pos (by rw[h.len];exact hb),DN (by omega),hl,Nat.sub_self,h.at_ a ha];rfl
 ·rw[if_neg (fun e=>hkb e.symm),BD (by omega),<-dN,<-dN]
  exact h.at_ k (by omega)
theorem ArS.new{S:Nat->Nat->Bool}{b:Nat}(h:ArS S nb b L)(hb:b<nb)(hf:(List.range b).find? (fun a=>S a b)=none):ArS S nb (b+1) (L.set b ((CV S b).2:Nat))/\(CV S (b+1)).2=(CV S b).2+1:=by
 have e:CV S (b+1)=((CV S b).1++[(CV S b).2],(CV S b).2+1):=by rw[KE,hf]
 refine⟨⟨by rw[lS];exact h.len,fun k hk=>?_⟩,by rw[e]⟩;have hl:=IH S b;rw[e,dN,dN (l:=(CV S b).1++_),List.getElem?_set];by_cases hkb:k=b
 ·subst hkb
  rw[if_pos rfl,if_pos (by rw[h.len];exact hb),DN (by omega),hl,Nat.sub_self];rfl
 ·rw[if_neg (fun e=>hkb e.symm),BD (by omega),<-dN,<-dN]
  exact h.at_ k (by omega)
theorem ArS.fin{S:Nat->Nat->Bool}(h:ArS S nb nb L):L=d9 (CV S nb).1:=by
 have hl:=IH S nb;apply List.ext_getElem?;intro k;unfold d9;rw[iY];by_cases hk:k<nb
 ·have:=h.at_ k hk
  rw[dN,dN,iB (by rw[h.len];exact hk),iB (l:=(CV S nb).1) (by omega)] at this;rw[iB (by rw[h.len];exact hk),iB (by omega)];simpa using this
 ·rw[List.getElem?_eq_none (by rw[h.len];omega),List.getElem?_eq_none (by omega)];rfl
end
section
open Go.ChangeShapes Go.WideShapes Go.ChangeAt Go.RowKit Go.Joins Go.Deep
attribute [local go_sem ↓] aE
attribute [local go_sem] aJ aI aM aR bY.cells
def cJ:bO where
 nodes:=[⟨#[65]⟩,⟨#[66]⟩,⟨#[67]⟩]
 sws:=[]
 brs:=[⟨⟨#[76]⟩,⟨#[65]⟩,⟨#[66]⟩,1000,1000,0,0,0,0⟩,⟨⟨#[77]⟩,⟨#[66]⟩,⟨#[67]⟩,500,1000,0,0,0,0⟩]
 gns:=[]
 lds:=[]
 sts:=[]
theorem kK(w:Wo):Calls Tryz.prog 53 #[] w fun e w'=>∃h:bY,e=.returned (.agg h.cells)/\cQ w' w'.heap.size h cJ/\Below w.heap.size w w':=by
 go_enter Tryz.func53,Tryz.ntmps53
 go_wp2_with fail
 refine bodyPost_ret (v:=.agg (bY.cells ⟨some ⟨w.heap.size+1,0,none⟩,3,3,none,0,0,some ⟨w.heap.size+1+1,0,none⟩,2,2,none,0,0,none,0,0,none,0,0⟩)) (by simp[results,Tryz.results53,go_sem]) rfl ⟨_,rfl,?_,?_⟩
 ·have f1:∀(W:Wo),zG W W.heap.size none 0 []:=fun W=>⟨rfl,rfl,fun h=>absurd h (by decide)⟩
  have f3:∀(W:Wo),zJ W W.heap.size none 0 []:=fun W=>⟨rfl,rfl,fun h=>absurd h (by decide)⟩;have f4:∀(W:Wo),zI W W.heap.size none 0 []:=fun W=>⟨rfl,rfl,fun h=>absurd h (by decide)⟩;have f5:∀(W:Wo),zH W W.heap.size none 0 []:=fun W=>⟨rfl,rfl,fun h=>absurd h (by decide)⟩;have rU:∀s∈cJ.nodes,s.size<=maxLen:=by decide+kernel
  have jR:∀s∈cJ.sws,s.name.size<=maxLen:=by decide+kernel
  have kS:∀s∈cJ.brs,s.name.size<=maxLen:=by decide+kernel
  have hz3:∀s∈cJ.gns,s.name.size<=maxLen:=by decide+kernel
  have hz4:∀s∈cJ.lds,s.name.size<=maxLen:=by decide+kernel
  have hz5:∀s∈cJ.sts,s.name.size<=maxLen:=by decide+kernel
  refine⟨fF (zs:=cJ.nodes) (T:=9) ?_ (by simp),f1 _,⟨rfl,I_ (vs:=cJ.brs.flatMap Br.cells) (T:=54) ?_ rfl (by simp)⟩,f3 _,f4 _,f5 _,
   by simp,by simp,by simp,by simp,by simp,by simp,rU,jR,kS,hz3,hz4,hz5⟩
  ·exact(aG.new_ (by simp)).alloc _
  ·exact aG.new_ (by simp)
 ·exact((bA).alloc (by simp) _).alloc (by simp;omega) _
theorem jQ(a b:ByteArray)(w:Wo):Calls Tryz.prog 24 #[.string a,.string b] w fun e w'=>e=.returned (.agg #[.int .i64 0,.string a,.string b,.int .i64 1])/\Below w.heap.size w w':=by
 go_enter Tryz.func24,Tryz.ntmps24
 go_wp2_with fail
 refine bodyPost_ret (v:=.agg #[.int .i64 0,.string a,.string b,.int .i64 1]) (by simp[results,Tryz.results24,go_sem]) rfl ⟨rfl,?_⟩
 first | exact bR | exact bA
end
section
open Go.ChangeShapes Go.WideShapes Go.ChangeAt Go.RowKit
attribute [local go_sem ↓] aE
attribute [local go_sem] aJ aI aM aR
theorem TE{α:Type}{el:α->List Value}{sz:Nat}(dW:∀a,(el a).length=sz):∀(xs:List α)(i:Nat)(x y:α)(j:Nat)(u:Value),xs[i]?=some x->j<sz->el y=(el x).set j u->(xs.set i y).flatMap el=(xs.flatMap el).set (i*sz+j) u
 | [],i,x,y,j,u,h,_,_=>by simp at h
 | a::r,0,x,y,j,u,h,hj,he=>by
  simp at h;subst h;simp only[List.set_cons_zero,List.flatMap_cons,he,Nat.zero_mul,Nat.zero_add];rw[List.set_append_left _ _ (by rw[dW];exact hj)]
 | a::r,i+1,x,y,j,u,h,hj,he=>by
  simp only[List.set_cons_succ,List.flatMap_cons];rw[TE dW r i x y j u (by simpa using h) hj he,List.set_append_right _ _ (by rw[dW,Nat.succ_mul];omega),dW];congr 2
  rw[Nat.succ_mul];omega
section
variable {w:Wo} {base n c i:Nat} {A:OA} {ms:List Mi} {m:Mi}
theorem eN.at_(h:eN w base (.slice A n c) ms)(hm:ms[i]?=some m):∃g,A=some ⟨g,0,none⟩/\base<=g/\g<w.heap.size/\w.cell? ⟨g,i*4,none⟩=some (.int .i64 m.kind)/\w.cell? ⟨g,i*4+1,none⟩=some (.string m.name)/\w.cell? ⟨g,i*4+2,none⟩=some (.string m.txt)/\w.cell? ⟨g,i*4+3,none⟩=some (.int .i64 m.wt)/\(∀o,w.frozen? ⟨g,o,none⟩=false)/\
    ∀(j:Nat)(u:Value)(m':Mi),j<4->Mi.cells m'=(Mi.cells m).set j u->eN (w.setCell ⟨g,i*4+j,none⟩ u) base (.slice A n c) (ms.set i m'):=by
 have hi:=(dH.1 hm).1;unfold eN at h;rcases h.2 with⟨h1,h2⟩ | ⟨g,cap,cur,h1,h2,h3,h4,h5,h6,h7⟩
 ·omega
 ·have hb:aG w g 57 cur:=h3
  have key:∀j y,j<4->(Mi.cells m)[j]?=some y->w.cell? ⟨g,i*4+j,none⟩=some y:=fun j y hj hy=>by
   rw[hb.cell];have:=lC Mi.len ms i m hm j hj;rw[hy,<-h7,List.getElem?_take] at this;split at this
   ·rwa[Array.getElem?_toList] at this
   ·cases this
  injection h1 with e1 e2 e3;refine⟨g,e1,h2,hb.lt,key 0 _ (by decide) rfl,key 1 _ (by decide) rfl,key 2 _ (by decide) rfl,key 3 _ (by decide) rfl,fun o=>hb.frozen o,fun j u m' hj he=>?_⟩;unfold eN;rw[lS,TE Mi.len ms i m m' j u hm hj he];refine⟨by rw[lS];exact h.1,.inr ⟨g,cap,cur.setIfInBounds (i*4+j) u,by rw[e1,e2,e3],h2,hb.set_ _ u,h4,h5,by rw[Array.size_setIfInBounds];exact h6,?_⟩⟩;rw[Array.toList_setIfInBounds,lU _ _ _ _ (by omega),h7]
end
end

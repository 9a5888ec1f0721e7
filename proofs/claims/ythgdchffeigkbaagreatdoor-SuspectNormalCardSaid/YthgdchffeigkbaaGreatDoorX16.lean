import Derived.Test.YthgdchffeigkbaaGreatDoorX12
import Derived.Test.YthgdchffeigkbaaGreatDoorX13
import Derived.Test.YthgdchffeigkbaaGreatDoorX15
set_option linter.unusedVariables false
set_option linter.unusedSimpArgs false
namespace Go.Proofs.YthgdchffeigkbaaGreatDoor
set_option maxHeartbeats 8000000
set_option maxRecDepth 100000
section
open Go.ChangeShapes Go.WideShapes Go.ChangeAt Go.RowKit
attribute [local go_sem ↓] aE
attribute [local go_sem] aK aH aM aY cE.cells
theorem aAK (A:OA) (c n:Nat) (es:List (Nat×Nat)) (w:Wo) (hE:RU w w.heap.size A es.length es) (ok:∀ x∈es,x.1<n/\x.2<n) (hn:n<=24) (he:es.length<=64) :
    Calls Tryz.prog 132 #[.int .i64 n,.slice A es.length c] w fun e w'=>e=.returned (.int .i64 0)/\Below w.heap.size w w':=by
 have HE:=lH hE;have cH:=lH ok;have dB:=lH (Below.refl w.heap.size w);clear hE ok;go_enter Tryz.func132,Tryz.ntmps132
 go_wp2_with fail
 go_loopw [20] (fun v wr=>∃ k:Nat,k<=es.length/\v=.int .i64 k/\Below w.heap.size w wr) (fun v _=>es.length-(intOf v).toNat)
 case atStart=>exact ⟨0,by omega,rfl,dB.o⟩
 case round=>
  clear dB;obtain ⟨k,hk,rfl,hb⟩:=hrel;have HB:=lH hb;clear hb
  by_cases aW:k<es.length
  ·obtain ⟨⟨xa,xb⟩,hx⟩:∃ x,es[k]?=some x:=⟨_,jA aW⟩
   have hE:=(HE.o.below HB.o lR).more HB.o.size;obtain ⟨eb,eo,heA,heb⟩:=hE.form (by omega);subst heA;obtain ⟨e0,e1⟩:=hE.at_ hx;dsimp only at e0 e1;obtain ⟨hxa,hxb⟩:=cH.o _ (cO hx);dsimp only at hxa hxb;have fT:(k:Int)<(es.length:Int):=by omega
   have hI1:(xa:Int)<(n:Int):=by omega
   have hI2:(xb:Int)<(n:Int):=by omega
   have DP:=lH (HB.o.alloc HB.o.size (.cells #[.int .i64 xa,.int .i64 xb] 166));clear hE hx
   go_wp2_with fail
   go_roundw
   case rel=>exact ⟨k+1,by omega,by go_num,DP.o⟩
   case measure=>simp [intOf];omega
  ·have hkk:k=es.length:=by omega
   subst hkk
   go_wp2_with fail
   go_ret;exact ⟨rfl,HB.o⟩
def aK3 (n:Nat) (es:List (Nat×Nat)) (w:Wo) (e:Ending) (w':Wo):Prop:=
 Below w.heap.size w w'/\∃ g:Nat,e=.returned (.tuple #[.slice (some ⟨g,0,none⟩) n n,.int .i64 0])/\w.heap.size<=g/\aG w' g 3 (ints (lL n es)).toArray
theorem aFj (n:Nat) (es:List (Nat×Nat)) (w:Wo) (e:Ending) (w':Wo) (h:Below w.heap.size w w'/\∃ g:Nat,e=.returned (.tuple #[.slice (some ⟨g,0,none⟩) n n,.int .i64 0])/\w.heap.size<=g/\aG w' g 3 (ints (lL n es)).toArray):aK3 n es w e w':=h
theorem RE (A:OA) (c n:Nat) (es:List (Nat×Nat)) (w:Wo) (hE:RU w w.heap.size A es.length es) (ok:∀ x∈es,x.1<n/\x.2<n) (hn:n<=24) (he:es.length<=64) :
    Calls Tryz.prog 101 #[.int .i64 n,.slice A es.length c] w (aK3 n es w):=by
 have HE:=lH hE;have cH:=lH ok;have HP:=lH (aFj n es w);clear hE ok;go_enter Tryz.func101,Tryz.ntmps101
 go_wp2_with fail
 refine (aAK A c n es w HE.o cH.o hn he).mono ?_;rintro e w1 ⟨rfl,hb⟩;have HB:=lH hb;clear hb
 go_wp2_with fail
 refine (aAb A c n es w1 (HE.o.bm HB.o) cH.o (by omega) (by omega)).mono ?_;rintro e w2 ⟨bL,g,rfl,hg,b_⟩;have bW:=lH (HB.o.tm bL);have HG:=lH hg;have iP:=lH b_;clear bL hg b_
 go_wp2_with fail
 go_ret2;exact HP.o _ _ ⟨bW.o,g,rfl,cV HB.o.size HG.o,iP.o⟩
def yV (nodes:List ByteArray) (op:Bool) (s:Sw):List (Nat×Nat):=if s.opn=op then [(dN nodes s.a,dN nodes s.b)] else []
def swE (x:bE) (op:Bool):List (Nat×Nat):=x.sws.flatMap (yV x.nodes op)
theorem aK9 {α β:Type} (f:α->List β) {l:List α} {k:Nat} {x:α} (h:l[k]?=some x):(l.take (k+1)).flatMap f=(l.take k).flatMap f++f x:=by
 rw [List.take_add_one,h,List.flatMap_append];simp
theorem aDK {α β:Type} (f:α->List β) (m:Nat) (h:∀ a,(f a).length<=m):∀ l:List α,(l.flatMap f).length<=m*l.length
 | []=>by simp
 | a::l=>by
  have h1:=aDK f m h l;have h2:=h a;rw [List.flatMap_cons,iC,E_,Nat.mul_succ];omega
theorem OT (nodes:List ByteArray) (op:Bool) (s:Sw):(yV nodes op s).length<=1:=by unfold yV;split<;>simp
theorem aDR:(Tryz.prog.info? 166).map (fun i=>(i.zero,i.size,i.bytes))=some (some (.agg #[.int .i64 0,.int .i64 0]),2,16):=by kernel_rfl
structure EgS (w0 W:Wo) (h:cE) (v6 v7:Value) (es:List (Nat×Nat)) (ws:List Value):Prop where
 low:Below w0.heap.size w0 W
 q1:aG W w0.heap.size 29 h.cells
 o6:W.ownsRow (w0.heap.size+1) 166 2 v6 es.length (es.flatMap OH)
 o7:W.ownsRow (w0.heap.size+1) 3 1 v7 ws.length ws
 ap:v7.ownBlock=none\/v7.ownBlock≠v6.ownBlock
 sz:w0.heap.size+1<=W.heap.size
theorem TW {w w':Wo} {base e size n:Nat} {v:Value} {xs:List Value} (h:w.ownsRow base e size v n xs) (hb:Below w.heap.size w w'):w'.ownsRow base e size v n xs:=by
 refine ⟨h.1,?_⟩;rcases h.2 with h1 | ⟨g,cap,cur,h1,h2,h3,h4⟩
 ·exact .inl h1
 ·refine .inr ⟨g,cap,cur,h1,h2,?_,h4⟩
  have hg:g<w.heap.size:=by
   rcases Nat.lt_or_ge g w.heap.size with aW | QJ
   ·exact aW
   ·rw [Array.getElem?_eq_none QJ] at h3;cases h3
  exact (hb.block g hg).trans h3
theorem EgS.up {w0 W W':Wo} {h:cE} {v6 v7:Value} {es:List (Nat×Nat)} {ws:List Value} (H:EgS w0 W h v6 v7 es ws) (hb:Below W.heap.size W W'):EgS w0 W' h v6 v7 es ws:=
 ⟨H.low.tm hb,H.q1.bl hb,TW H.o6 hb,TW H.o7 hb,H.ap,cV H.sz hb.size⟩
theorem vU {w:Wo} {B e size n g:Nat} {v:Value} {xs:List Value} (h:w.ownsRow B e size v n xs) (hg:v.ownBlock=some g):B<=g/\g<w.heap.size:=h.lt g hg
theorem EgS.app6 {w0 W W' W1:Wo} {h:cE} {v6 v7:Value} {es:List (Nat×Nat)} {ws:List Value} (H:EgS w0 W h v6 v7 es ws) (hb:Below W.heap.size W W') {p:Nat×Nat} {g cap:Nat}
    (ho:W1.ownsRow (w0.heap.size+1) 166 2 (.slice (some ⟨g,0,none⟩) (es.length+1) cap) (es.length+1) (es.flatMap OH++OH p)) (hg:W'.grownBy W1 v6.ownBlock) (LA:v6.ownBlock=some g\/g=W'.heap.size) :
    EgS w0 W1 h (.slice (some ⟨g,0,none⟩) (es.length+1) cap) v7 (es++[p]) ws:=by
 have H':=H.up hb;have cP:v7.ownBlock=none\/v7.ownBlock≠v6.ownBlock:=H'.ap;have zY:Below w0.heap.size w0 W1:=by
  refine ⟨hg.os.trans H'.low.os,hg.tape.trans H'.low.tape,hg.output.trans H'.low.output,cV H'.low.size hg.size,fun i hi=>?_⟩;have cP:some i≠v6.ownBlock:=fun e=>by have:=(vU H'.o6 e.symm).1;omega
  exact (hg.block i (by have:=H'.sz;omega) cP).trans (H'.low.block i hi)
 refine ⟨zY,H'.q1.grown hg (fun e=>?_),?_,H'.o7.kept hg cP,?_,cV H'.sz hg.size⟩
 ·have:=(vU H'.o6 e.symm).1;omega
 ·rw [iC,List.flatMap_append]
  simpa [OH] using ho
 ·rcases cP with h1 | h1
  ·exact .inl h1
  ·right
   intro e;rcases LA with h2 | h2
   ·rw [h2] at h1;exact h1 e
   ·have h3:v7.ownBlock=some g:=e
    have:=(vU H'.o7 h3).2;omega
theorem EgS.app7 {w0 W W' W1:Wo} {h:cE} {v6 v7:Value} {es:List (Nat×Nat)} {ws:List Value} (H:EgS w0 W h v6 v7 es ws) (hb:Below W.heap.size W W') {u:Value} {g cap:Nat}
    (ho:W1.ownsRow (w0.heap.size+1) 3 1 (.slice (some ⟨g,0,none⟩) (ws.length+1) cap) (ws.length+1) (ws++[u])) (hg:W'.grownBy W1 v7.ownBlock) (LA:v7.ownBlock=some g\/g=W'.heap.size) :
    EgS w0 W1 h v6 (.slice (some ⟨g,0,none⟩) (ws.length+1) cap) es (ws++[u]):=by
 have H':=H.up hb;have hap:=H'.ap;have cP:v6.ownBlock=none\/v6.ownBlock≠v7.ownBlock:=by
  rcases hap with h1 | h1
  ·rw [h1]
   cases h6:v6.ownBlock with
   | none=>exact .inl rfl
   | some k=>exact .inr (by simp)
  ·exact .inr (Ne.symm h1)
 have zY:Below w0.heap.size w0 W1:=by
  refine ⟨hg.os.trans H'.low.os,hg.tape.trans H'.low.tape,hg.output.trans H'.low.output,cV H'.low.size hg.size,fun i hi=>?_⟩;have cP:some i≠v7.ownBlock:=fun e=>by have:=(vU H'.o7 e.symm).1;omega
  exact (hg.block i (by have:=H'.sz;omega) cP).trans (H'.low.block i hi)
 refine ⟨zY,H'.q1.grown hg (fun e=>?_),H'.o6.kept hg cP,by rw [iC];exact ho,?_,cV H'.sz hg.size⟩
 ·have:=(vU H'.o7 e.symm).1;omega
 ·right
  intro e;rcases LA with h2 | h2
  ·rcases hap with h1 | h1
   ·rw [h1] at h2;cases h2
   ·rw [h2] at h1;exact h1 e
  ·have h3:v6.ownBlock=some g:=e.symm
   have:=(vU H'.o6 h3).2;omega
theorem BY {nodes:List ByteArray} {s:ByteArray} (hs:s∈nodes):gD (fun x=>pR s x) nodes 0=((dN nodes s:Nat):Int):=(rR hs).1
theorem XF (w:Wo) (p:Nat×Nat) (t:TypeId):∀ (j:Nat) (u:Value),(OH p)[j]?=some u->((w.alloc (.cells #[.int .i64 p.1,.int .i64 p.2] t)).drew).cell? ((⟨w.heap.size,0,none⟩:Addr).add j)=some u:=
 World.news_of_block (w:=(w.alloc (.cells #[.int .i64 p.1,.int .i64 p.2] t)).drew) (B:=w.heap.size) (cs:=#[.int .i64 p.1,.int .i64 p.2]) (t:=t) (fr:=(0,0)) (aG.new w t _)
theorem aC7 (p:Nat×Nat):∀ u∈OH p,u.oneCell'=true:=by
 intro u hu;unfold OH at hu;simp at hu;rcases hu with rfl | rfl<;>rfl
theorem iQ {w:Wo} {b o:Nat} {v:Value} {ob:Obj} (h:w.cell? ⟨b,o,none⟩=some v) (hb:b<w.heap.size):(w.alloc ob).cell? ⟨b,o,none⟩=some v:=by
 rw [((Below.refl w.heap.size w).alloc lR ob).cell (p:=⟨b,o,none⟩) hb];exact h
def aSV (x:bE) (op:Bool) (w:Wo) (e:Ending) (w':Wo):Prop:=
 Below w.heap.size w w'/\∃ (v6 v7:Value),e=.returned (.tuple #[v6,v7])/\w'.ownsRow (w.heap.size+1) 166 2 v6 (swE x op).length ((swE x op).flatMap OH)
theorem aIF (x:bE) (op:Bool) (w:Wo) (e:Ending) (w':Wo) (h:Below w.heap.size w w'/\∃ (v6 v7:Value),e=.returned (.tuple #[v6,v7])/\w'.ownsRow (w.heap.size+1) 166 2 v6 (swE x op).length ((swE x op).flatMap OH)):aSV x op w e w':=h
theorem aAO (h:cE) (x:bE) (ok:cN x) (op:Bool) (w:Wo) (hR:cS w w.heap.size h x) :
    Calls Tryz.prog 131 #[.agg h.cells,.bool op] w (aSV x op w):=by
 obtain ⟨A0,n0,c0,A1,n1,c1,A2,n2,c2,A3,n3,c3,A4,n4,c4,A5,n5,c5⟩:=h;dsimp only [cE.cells] at *;have cH:=lH ok;have HR:=lH hR;have HP:=lH (aIF x op w);obtain ⟨i0,kC,JI,DG,hi3⟩:=info_parts aDR;have DN:=lH kC;have AR:=lH JI;have J0:=lH DG;have JZ:=lH hi3;obtain ⟨j0,JH,hj1,hj2,hj3⟩:=info_parts GK;have HJ0:=lH JH;have HJ1:=lH hj1;have HJ2:=lH hj2;have HJ3:=lH hj3;have eN:Hid (x.sws.length=n1):=lH hR.r1.1;have aYT:n1<=32:=by have:=ok.l1;have:=eN.o;omega
 have aEg:n0<=9223372036854775807:=hR.m0;have JS:Hid (EgS w (w.alloc (.cells #[.slice A0 n0 c0,.slice A1 n1 c1,.slice A2 n2 c2,.slice A3 n3 c3,.slice A4 n4 c4,.slice A5 n5 c5] 29)) ⟨A0,n0,c0,A1,n1,c1,A2,n2,c2,A3,n3,c3,A4,n4,c4,A5,n5,c5⟩ (.slice none 0 0) (.slice none 0 0) [] []):=lH
  ⟨bA,aG.new w _ _,World.ownsRow_nil _ _ _ _,World.ownsRow_nil _ _ _ _,.inl rfl,by simp⟩
 clear kC JI DG hi3 JH hj1 hj2 hj3 ok hR;obtain ⟨y0,y1,y2,y3,y4,y5,nf,nlt⟩:=a_ (h:=⟨A0,n0,c0,A1,n1,c1,A2,n2,c2,A3,n3,c3,A4,n4,c4,A5,n5,c5⟩) JS.o.q1;go_enter Tryz.func131,Tryz.ntmps131
 go_wp2_with fail
 generalize w.alloc (.cells #[.slice A0 n0 c0,.slice A1 n1 c1,.slice A2 n2 c2,.slice A3 n3 c3,.slice A4 n4 c4,.slice A5 n5 c5] 29)=w1 at *;clear y0 y1 y2 y3 y4 y5 nf nlt
 go_loopw [6,7,13] (fun v6 v7 i wr=>∃ (k:Nat) (ws:List Value),k<=n1/\i=.int .i64 k/\ws.length<=k/\EgS w wr ⟨A0,n0,c0,A1,n1,c1,A2,n2,c2,A3,n3,c3,A4,n4,c4,A5,n5,c5⟩ v6 v7 ((x.sws.take k).flatMap (yV x.nodes op)) ws) (fun _ _ i _=>n1-(intOf i).toNat)
 case atStart=>exact ⟨0,[],by omega,rfl,by simp,JS.o⟩
 case round=>
  clear JS;obtain ⟨k,ws,hk,rfl,hwl,hs⟩:=hrel;have HS:=lH hs;have HWL:=lH hwl;obtain ⟨y0,y1,y2,y3,y4,y5,nf,nlt⟩:=a_ hs.q1;clear hs hwl
  by_cases aW:k<n1
  ·obtain ⟨z,hz⟩:∃ z,x.sws[k]?=some z:=eO (by have:=eN.o;omega)
   have hrw:=HR.o.up HS.o.low;obtain ⟨bz,oz,hA,M5⟩:=hrw.r1.form (by dsimp only;omega);dsimp only at hA;subst hA;obtain ⟨e0,e1,e2,e3,e4⟩:=hrw.r1.at_ hz;have HRN:=lH hrw.r0;have HZS:=lH (cH.o.sw z (cO hz));have HZ:=lH (aK9 (yV x.nodes op) hz);have JO:Hid (((x.sws.take k).flatMap (yV x.nodes op)).length<=1000):=lH (by
    have h1:=aDK (yV x.nodes op) 1 (OT x.nodes op) (x.sws.take k);have:=eN.o;rw [jP] at h1;omega)
   have yR:=lH ((Below.refl wr.heap.size wr).alloc lR (.cells #[.string z.name,.string z.a,.string z.b,.bool z.breaker,.bool z.opn] 148));have nQ:=lH (HS.o.up yR.o);have cU:Hid (aG (wr.alloc (.cells #[.string z.name,.string z.a,.string z.b,.bool z.breaker,.bool z.opn] 148)) wr.heap.size 148 #[.string z.name,.string z.a,.string z.b,.bool z.breaker,.bool z.opn]):=lH (aG.new wr _ _);have fT:(k:Int)<(n1:Int):=by omega
   clear hz hrw
   by_cases hop:z.opn=op
   ·have Y9:Hid (yV x.nodes op z=[(dN x.nodes z.a,dN x.nodes z.b)]):=lH (by unfold yV;rw [if_pos hop])
    have aPD:(z.opn == op)=true:=by simp [hop]
    have aBi:Hid (bG (wr.alloc (.cells #[.string z.name,.string z.a,.string z.b,.bool z.breaker,.bool z.opn] 148)) (wr.alloc (.cells #[.string z.name,.string z.a,.string z.b,.bool z.breaker,.bool z.opn] 148)).heap.size A0 n0 x.nodes):=lH (HRN.o.bm yR.o);rw [hop] at nQ cU aBi yR e4;clear hop aPD
    go_wp2_with fail
    have hzw:wr.heap.size<(wr.alloc (.cells #[.string z.name,.string z.a,.string z.b,.bool z.breaker,.bool op] 148)).heap.size:=by simp
    have mJ:u6.ownBlock≠some w.heap.size:=fun e=>by have:=(HS.o.o6.lt _ e).1;omega
    have kD:u6.ownBlock≠some wr.heap.size:=fun e=>by have:=(HS.o.o6.lt _ e).2;omega
    clear yR HS HRN y0 y1 y2 y3 y4 y5 nf nlt e0 e1 e2 e3 e4;generalize hWW:wr.alloc (.cells #[.string z.name,.string z.a,.string z.b,.bool z.breaker,.bool op] 148)=W at *;generalize hzb:wr.heap.size=zb at *;have q0:W.cell? ⟨w.heap.size,0,none⟩=some (.slice A0 n0 c0):=nQ.o.q1.cell 0;have b1:W.cell? ⟨zb,1,none⟩=some (.string z.a):=cU.o.cell 1;have b2:W.cell? ⟨zb,2,none⟩=some (.string z.b):=cU.o.cell 2;have hsa:z.a∈x.nodes:=HZS.o.1;have mU:z.b∈x.nodes:=HZS.o.2.1;generalize hE0:(x.sws.take k).flatMap (yV x.nodes op)=E0 at *;have HEE:=lH hE0;clear hE0 hWW hzb;have c_:w.heap.size+1<=W.heap.size:=nQ.o.sz;generalize u6=v6 at *;refine aJ (S:=fun w'=>w'.cell? ⟨w.heap.size,0,none⟩=some (.slice A0 n0 c0)/\w'.cell? ⟨zb,1,none⟩=some (.string z.a)/\w'.cell? ⟨zb,2,none⟩=some (.string z.b)) 14 _ (by kernel_rfl) (by kernel_rfl) rfl ⟨q0,b1,b2⟩ (fun hHeld=>?_)
    simp only [lA,List.take_zero];refine cK 0 (v:=?_) rfl (by kernel_rfl) (fun _ _ _ h=>h) (by rfl) ?_ hHeld ?_;rotate_left 1
    ·intro w' hSw;(try dsimp only at hSw);go_simp<;>with_reducible rfl
    try simp only [Act.put,bP,bO,bN]
    refine cK 1 (v:=?_) rfl (by kernel_rfl) (fun _ _ _ h=>h) (by rfl) ?_ hHeld ?_;rotate_left 1
    ·intro w' hSw;(try dsimp only at hSw);go_simp<;>with_reducible rfl
    try simp only [Act.put,bP,bO,bN]
    refine cK 2 (v:=?_) rfl (by kernel_rfl) (fun _ _ _ h=>h) (by rfl) ?_ hHeld ?_;rotate_left 1
    ·intro w' hSw;(try dsimp only at hSw);go_simp<;>with_reducible rfl
    try simp only [Act.put,bP,bO,bN]
    refine cK 3 (v:=?_) rfl (by kernel_rfl) (fun _ _ _ h=>h) (by rfl) ?_ hHeld ?_;rotate_left 1
    ·intro w' hSw;(try dsimp only at hSw);go_simp<;>with_reducible rfl
    try simp only [Act.put,bP,bO,bN]
    refine cK 4 (v:=?_) rfl (by kernel_rfl) (fun _ _ _ h=>h) (by rfl) ?_ hHeld ?_;rotate_left 1
    ·intro w' hSw;(try dsimp only at hSw);go_simp<;>with_reducible rfl
    try simp only [Act.put,bP,bO,bN]
    refine cK 6 (v:=?_) rfl (by kernel_rfl) (fun _ _ _ h=>h) (by rfl) ?_ hHeld ?_;rotate_left 1
    ·intro w' hSw;(try dsimp only at hSw);go_simp<;>with_reducible rfl
    try simp only [Act.put,bP,bO,bN]
    refine cK 7 (v:=?_) rfl (by kernel_rfl) (fun _ _ _ h=>h) (by rfl) ?_ hHeld ?_;rotate_left 1
    ·intro w' hSw;(try dsimp only at hSw);go_simp<;>with_reducible rfl
    try simp only [Act.put,bP,bO,bN]
    refine cK 8 (v:=?_) rfl (by kernel_rfl) (fun _ _ _ h=>h) (by rfl) ?_ hHeld ?_;rotate_left 1
    ·intro w' hSw;(try dsimp only at hSw);go_simp<;>with_reducible rfl
    try simp only [Act.put,bP,bO,bN]
    refine cK 9 (v:=?_) rfl (by kernel_rfl) (fun _ _ _ h=>h) (by rfl) ?_ hHeld ?_;rotate_left 1
    ·intro w' hSw;(try dsimp only at hSw);go_simp<;>with_reducible rfl
    try simp only [Act.put,bP,bO,bN]
    refine aU 5 (by kernel_rfl) rfl (fun K hK=>?_);go_simp;refine (jR A0 n0 c0 x.nodes z.a W.drew aBi.o aEg).mono ?_;rw [BY hsa];rintro e w' ⟨rfl,rfl⟩;go_simp;refine hK.out _ _ ?_ (fun hHeld=>?_)
    ·exact hHeld
    clear hK K
    try simp only [Act.put,bP,bO,bN]
    refine aU 10 (by kernel_rfl) rfl (fun K hK=>?_);go_simp;refine (jR A0 n0 c0 x.nodes z.b W.drew aBi.o aEg).mono ?_;rw [BY mU];rintro e w' ⟨rfl,rfl⟩;go_simp;refine hK.out _ _ ?_ (fun hHeld=>?_)
    ·exact hHeld
    clear hK K
    try simp only [Act.put,bP,bO,bN]
    refine cK 11 (v:=?_) rfl (by kernel_rfl) (fun _ _ _ h=>h) (by rfl) ?_ hHeld ?_;rotate_left 1
    ·intro w' hSw;(try dsimp only at hSw);go_simp<;>with_reducible rfl
    try simp only [Act.put,bP,bO,bN]
    refine aU 12 (by kernel_rfl) rfl (fun K hK=>?_);go_simp;refine hK.out _ _ ?_ (fun hHeld=>?_)
    ·exact ⟨iQ q0 (by omega),iQ b1 (by omega),iQ b2 (by omega)⟩
    clear hK K
    try simp only [Act.put,bP,bO,bN]
    refine aU 13 (by kernel_rfl) rfl (fun K hK=>?_);refine step_append_lies _ (by rfl) _ _ _ (by rfl) (w.heap.size+1) 166 i0 _ 2 16 Tryz.underlying165 DN.o AR.o J0.o JZ.o rfl (by omega) v6 _ _ (by rfl) ((nQ.o.o6.alloc _).drew) ⟨W.heap.size,0,none⟩ 1 1 (OH (dN x.nodes z.a,dN x.nodes z.b)) (by rfl) (by rfl) (XF W (dN x.nodes z.a,dN x.nodes z.b) 166) (aC7 _) (by omega) (by have:=JO.o;simp only [maxLen];omega) (by have:=JO.o;omega) (by simp;omega) (W.heap.size+1) (by simp) ?_;intro gg cap w1 hown1 hgrow LA aPP;refine hK.out _ _ ?_ (fun hHeld=>?_)
    ·exact ⟨(hgrow.cell_far ⟨w.heap.size,0,none⟩ (by simp;omega) (Ne.symm mJ)).trans (iQ q0 (by omega)),(hgrow.cell_far ⟨zb,1,none⟩ (by simp;omega) (Ne.symm kD)).trans (iQ b1 (by omega)),(hgrow.cell_far ⟨zb,2,none⟩ (by simp;omega) (Ne.symm kD)).trans (iQ b2 (by omega))⟩
    clear hK K
    try simp only [Act.put,bP,bO,bN]
    refine wpAnyH_done (by kernel_rfl) ?_ _;refine aP (by rfl) ?_;have HS5:=lH (nQ.o.app6 (aD (bA)) hown1 hgrow (by simpa using LA));clear hgrow LA hown1 hHeld;have hJL:ws.length<=1000:=by have:=HWL.o;omega
    generalize X1:(Value.slice (some (⟨gg,0,none⟩:Addr)) (E0.length+1) cap)=v6' at HS5 ⊢;have HV6:=lH X1;clear X1;have eD:w.heap.size+1<=w1.heap.size:=HS5.o.sz;have L0:Hid (∀ (j:Nat) (u:Value),([Value.int .i64 k]:List Value)[j]?=some u->((w1.alloc (.cells #[.int .i64 k] 3))).cell? ((⟨w1.heap.size,0,none⟩:Addr).add j)=some u):=lH (World.news_of_block (B:=w1.heap.size) (cs:=#[.int .i64 k]) (t:=3) (fr:=(0,0)) (aG.new w1 _ _));go_simp
    go_wp2_with (at_builtin;refine wpList_append_lies _ rfl (.tmp 36) (.tmp 38) 30 rfl (w.heap.size+1) 3 j0 _ 1 8 Tryz.underlying30 HJ0.o HJ1.o HJ2.o HJ3.o rfl (by omega) u7 _ _ rfl (HS5.o.o7.alloc _) ⟨w1.heap.size,0,none⟩ 1 1 [.int .i64 k] rfl rfl L0.o (by intro u hu;rw [List.mem_singleton.1 hu];rfl) (by omega) (by simp only [maxLen];omega) (by omega) (by simp;omega) (w1.heap.size+1) (by simp) ?_;intro g2 cap2 w2 tJ hgrow2 hat2 U4)
    have HS6:=lH (HS5.o.app7 (bA) tJ hgrow2 (by simpa using hat2));clear tJ hgrow2 hat2;go_roundw
    case rel=>exact ⟨k+1,ws++[.int .i64 k],by omega,by go_num,by rw [iC,List.length_singleton];have:=HWL.o;omega,by rw [HZ.o,Y9.o];exact HS6.o⟩
    case measure=>simp [intOf];omega
   ·have Y9:Hid (yV x.nodes op z=[]):=lH (by unfold yV;rw [if_neg hop])
    have aPD:(z.opn == op)=false:=by simpa using hop
    generalize z.opn=zo at *;clear hop
    go_wp2_with fail
    go_roundw
    case rel=>exact ⟨k+1,ws,by omega,by go_num,by have:=HWL.o;omega,by rw [HZ.o,Y9.o,List.append_nil];exact nQ.o⟩
    case measure=>simp [intOf];omega
  ·have hkk:n1=k:=by omega
   subst hkk;have WJ:Hid (x.sws.take n1=x.sws):=lH (nW (by have:=eN.o;omega))
   go_wp2_with fail
   go_ret2;have h:=HS.o;rw [WJ.o] at h;exact HP.o _ _ ⟨h.low,_,_,rfl,h.o6⟩
end
section
def I5 (p:Nat->Bool) (b:Nat):Nat:=((List.range b).filter p).length
theorem G9 (p:Nat->Bool) (b:Nat):I5 p (b+1)=I5 p b+if p b then 1 else 0:=by
 unfold I5;rw [List.range_succ,List.filter_append,iC];congr 1
 cases h:p b<;>simp [h]
def kE (p:Nat->Bool) (n:Nat):List Nat:=(List.range n).filter p
theorem rP (p:Nat->Bool) (n:Nat):(kE p n).length=I5 p n:=rfl
def ext (p:Nat->Bool) (x:Fn) (b:Nat):Rat:=if p b then x (I5 p b) else 0
theorem ZE {l m:List Rat} {i:Nat} (h:i<l.length):vf (l++m) i=vf l i:=by
 unfold vf;rw [eY,eY,xQ h]
theorem ZF (l:List Rat) (y:Rat):vf (l++[y]) l.length=y:=iA (by simp)
theorem PN (p:Nat->Bool) (c:Nat->Rat) (x:Fn):∀ n:Nat,bB (I5 p n) (vf ((kE p n).map c)) x=aO n fun b=>c b*ext p x b
 | 0=>rfl
 | n+1=>by
  have ih:=PN p c x n;rw [aO,<-ih];have hl:((kE p n).map c).length=I5 p n:=by rw [lB,rP]
  cases hp:p n with
  | false=>
   have e1:I5 p (n+1)=I5 p n:=by rw [G9,hp];rfl
   have e2:kE p (n+1)=kE p n:=by unfold kE;rw [List.range_succ,List.filter_append];simp [hp]
   rw [e1,e2];unfold ext;rw [hp];simp only [Bool.false_eq_true,if_false];rw [Rat.mul_zero,Rat.add_zero]
  | true=>
   have e1:I5 p (n+1)=I5 p n+1:=by rw [G9,hp];rfl
   have e2:kE p (n+1)=kE p n++[n]:=by unfold kE;rw [List.range_succ,List.filter_append];simp [hp]
   rw [e1,e2,List.map_append,List.map_singleton];unfold bB;rw [aO];have e3:vf ((kE p n).map c++[c n]) (I5 p n)=c n:=by rw [<-hl];exact ZF _ _
   rw [e3];congr 1
   ·refine aN fun i hi=>?_
    rw [ZE (by rw [hl];exact hi)]
   ·unfold ext
    rw [hp];simp
def two (a b:Nat) (k:Nat):Rat:=(if k=a then 1 else 0)-(if k=b then 1 else 0)
def tS (S:Nat->Nat->Bool):Nat->List Nat×Nat
 | 0=>([],0)
 | b+1=>match (List.range b).find? (fun a=>S a b) with
  | some a=>((tS S b).1++[(tS S b).1.getD a 0],(tS S b).2)
  | none=>((tS S b).1++[(tS S b).2],(tS S b).2+1)
theorem uX (S:Nat->Nat->Bool) (b:Nat):tS S (b+1)=match (List.range b).find? (fun a=>S a b) with
    | some a=>((tS S b).1++[(tS S b).1.getD a 0],(tS S b).2)
    | none=>((tS S b).1++[(tS S b).2],(tS S b).2+1):=rfl
def T9 (S:Nat->Nat->Bool) (b:Nat):Bool:=!(List.range b).any fun a=>S a b
theorem E7 (S:Nat->Nat->Bool):∀ n:Nat,(tS S n).1.length=n
 | 0=>rfl
 | n+1=>by
  have:=E7 S n;rw [uX]
  split<;>simp [this]
def aCM (l:List Nat) (a b:Nat):Bool:=l.getD a 0 == l.getD b 0
def iB (l:List Nat) (b:Nat):Bool:=!T9 (aCM l) b
end
section
open Go.ChangeShapes Go.WideShapes Go.ChangeAt Go.RowKit
attribute [local go_sem ↓] aE
attribute [local go_sem] aK aH aM aY cE.cells
theorem XB {w:Wo} {B:Nat} {v:Value} {es:List (Nat×Nat)} (h:w.ownsRow B 166 2 v es.length (es.flatMap OH)):∃ A c,v=.slice A es.length c/\RU w w.heap.size A es.length es:=by
 rcases h.2 with ⟨h1,h2⟩ | ⟨g,cap,cur,h1,h2,h3,h4,h5,h6,h7⟩
 ·refine ⟨none,0,by rw [h2];exact h1,rfl,h.1,fun h0=>by omega⟩
 ·refine ⟨_,_,h1,rfl,h.1,fun h0=>⟨g,0,rfl,?_,fun j u hu=>?_⟩⟩
  ·rcases Nat.lt_or_ge g w.heap.size with aW | QJ
   ·exact aW
   ·rw [Array.getElem?_eq_none QJ] at h3;cases h3
  ·rw [Nat.zero_add,cell_of_row w g j cur 166 (0,0) h3]
   rw [<-h7] at hu;have sQ:=(dP.1 hu).1;rw [List.getElem?_take_of_lt (by rw [jP] at sQ;omega)] at hu;simpa using hu
def nJ (x:bE):List Int:=lL x.nodes.length (swE x false)
theorem TB {x:bE} (ok:cN x) (op:Bool):(∀ p∈swE x op,p.1<x.nodes.length/\p.2<x.nodes.length)/\(swE x op).length<=32:=by
 refine ⟨fun p hp=>?_,?_⟩
 ·obtain ⟨s,hs,h1⟩:=List.mem_flatMap.1 hp
  unfold yV at h1
  split at h1
  ·rw [List.mem_singleton.1 h1]
   exact ⟨(rR (ok.sw s hs).1).2,(rR (ok.sw s hs).2.1).2⟩
  ·cases h1
 ·have h:=aDK (yV x.nodes op) 1 (OT x.nodes op) x.sws
  have:=ok.l1;unfold swE;omega
theorem qP {x:bE} (ok:cN x):(nJ x).length=x.nodes.length/\∀ b∈nJ x,0<=b/\b<x.nodes.length:=zN (TB ok false).1
def aS0 (x:bE) (n0:Nat) (w:Wo) (e:Ending) (w':Wo):Prop:=
 Below w.heap.size w w'/\∃ g:Nat,e=.returned (.slice (some ⟨g,0,none⟩) n0 n0)/\w.heap.size<=g/\aG w' g 3 (ints (nJ x)).toArray
theorem aIQ (x:bE) (n0:Nat) (w:Wo) (e:Ending) (w':Wo) (h:Below w.heap.size w w'/\∃ g:Nat,e=.returned (.slice (some ⟨g,0,none⟩) n0 n0)/\w.heap.size<=g/\aG w' g 3 (ints (nJ x)).toArray):aS0 x n0 w e w':=h
theorem aA5 (h:cE) (x:bE) (ok:cN x) (w:Wo) (hR:cS w w.heap.size h x) :
    Calls Tryz.prog 100 #[.agg h.cells] w (aS0 x h.n0 w):=by
 obtain ⟨A0,n0,c0,A1,n1,c1,A2,n2,c2,A3,n3,c3,A4,n4,c4,A5,n5,c5⟩:=h;dsimp only [cE.cells] at *;have cH:=lH ok;have HP:=lH (aIQ x n0 w);have dB:Hid (Below w.heap.size w (w.alloc (.cells #[.slice A0 n0 c0,.slice A1 n1 c1,.slice A2 n2 c2,.slice A3 n3 c3,.slice A4 n4 c4,.slice A5 n5 c5] 29))):=lH (bA);have HQ0:Hid (aG (w.alloc (.cells #[.slice A0 n0 c0,.slice A1 n1 c1,.slice A2 n2 c2,.slice A3 n3 c3,.slice A4 n4 c4,.slice A5 n5 c5] 29)) w.heap.size 29 #[.slice A0 n0 c0,.slice A1 n1 c1,.slice A2 n2 c2,.slice A3 n3 c3,.slice A4 n4 c4,.slice A5 n5 c5]):=lH (aG.new w _ _);have HR:=lH (hR.up dB.o);have HN0:Hid (x.nodes.length=n0):=lH hR.r0.1;have nO:n0<=24:=by have:=ok.l0;have:=HN0.o;omega
 clear ok hR;obtain ⟨y0,y1,y2,y3,y4,y5,nf,nlt⟩:=a_ (h:=⟨A0,n0,c0,A1,n1,c1,A2,n2,c2,A3,n3,c3,A4,n4,c4,A5,n5,c5⟩) HQ0.o;go_enter Tryz.func100,Tryz.ntmps100
 go_wp2_with fail
 generalize w.alloc (.cells #[.slice A0 n0 c0,.slice A1 n1 c1,.slice A2 n2 c2,.slice A3 n3 c3,.slice A4 n4 c4,.slice A5 n5 c5] 29)=w1 at *;clear y0 y1 y2 y3 y4 y5 nf nlt;refine (aAO ⟨A0,n0,c0,A1,n1,c1,A2,n2,c2,A3,n3,c3,A4,n4,c4,A5,n5,c5⟩ x cH.o false w1 HR.o).mono ?_;rintro e w2 ⟨hb,v6,v7,rfl,ho⟩;have bW:=lH (dB.o.tm hb);have rG:=lH (HQ0.o.bl hb);obtain ⟨A,c,rfl,hE⟩:=XB ho;have HE:=lH hE;clear hb ho hE;obtain ⟨y0,y1,y2,y3,y4,y5,nf,nlt⟩:=a_ (h:=⟨A0,n0,c0,A1,n1,c1,A2,n2,c2,A3,n3,c3,A4,n4,c4,A5,n5,c5⟩) rG.o;have II:=lH (TB cH.o false).2;have HSO:Hid (∀ p∈swE x false,p.1<n0/\p.2<n0):=lH (by have h:=(TB cH.o false).1;rw [HN0.o] at h;exact h);have HBE:Hid (lL n0 (swE x false)=nJ x):=lH (by unfold nJ;rw [HN0.o]);generalize swE x false=es at *
 go_wp2_with fail
 clear y0 y1 y2 y3 y4 y5 nf nlt;refine (RE A c n0 es w2 HE.o HSO.o nO (by have:=II.o;omega)).mono ?_;rintro e w3 ⟨hb,g,rfl,hg,b_⟩;have dR:=lH (bW.o.tm hb);have HG:=lH (cV bW.o.size hg);have iP:=lH b_;clear hb hg b_
 go_wp2_with fail
 go_ret;exact HP.o _ _ ⟨dR.o,g,rfl,HG.o,by rw [<-HBE.o];exact iP.o⟩
def aV (x:bE) (s:ByteArray):Nat:=((nJ x).getD (dN x.nodes s) 0).toNat
def aI (x:bE):Nat:=(FH (nJ x)).toNat
def NJ (x:bE):List (Nat×Nat):=x.brs.map fun b=>(aV x b.fr,aV x b.to)
def xZ (x:bE):List Int:=lL (aI x) (NJ x)
theorem fR {x:bE} (ok:cN x):(aI x:Int)=FH (nJ x)/\aI x<=x.nodes.length:=by
 obtain ⟨h1,h2,h3⟩:=MA (nJ x);have h4:=h3 x.nodes.length (by omega) fun b hb=>((qP ok).2 b hb).2;unfold aI;omega
theorem dD {x:bE} (ok:cN x) {s:ByteArray} (hs:s∈x.nodes):(nJ x).getD (dN x.nodes s) 0=(aV x s:Int)/\aV x s<aI x/\dN x.nodes s<(nJ x).length:=by
 have hi:=(rR hs).2;rw [<-(qP ok).1] at hi;have hm:(nJ x).getD (dN x.nodes s) 0∈nJ x:=by rw [eY,jA hi];exact List.getElem_mem hi
 have h1:=(qP ok).2 _ hm;have h2:=(MA (nJ x)).2.1 _ hm;have h3:=(fR ok).1;refine ⟨?_,?_,hi⟩<;>unfold aV<;>omega
theorem NI {x:bE} (ok:cN x):(∀ p∈NJ x,p.1<aI x/\p.2<aI x)/\(NJ x).length<=24:=by
 refine ⟨fun p hp=>?_,by unfold NJ;rw [lB];exact ok.l2⟩;obtain ⟨b,hb,rfl⟩:=List.mem_map.1 hp;exact ⟨(dD ok (ok.br b hb).1).2.1,(dD ok (ok.br b hb).2.1).2.1⟩
theorem ZL {α β:Type} (f:α->β) {l:List α} {k:Nat} {x:α} (h:l[k]?=some x):(l.take (k+1)).map f=(l.take k).map f++[f x]:=by
 rw [List.take_add_one,h,List.map_append];rfl
theorem TA {l:List Int} {k:Nat} {x:Int} (h:l[k]?=some x):FH (l.take (k+1))=max (FH (l.take k)) (x+1):=by
 unfold FH;rw [List.take_add_one,h,List.foldl_append];rfl
theorem XY {l:List Int} {g i:Nat} {w:Wo} (h:aG w g 3 (ints l).toArray) {x:Int} (hx:l[i]?=some x):w.cell? ⟨g,i,none⟩=some (.int .i64 x):=by
 rw [h.cell,List.getElem?_toArray];unfold ints;rw [kI,hx];rfl
def aQP (x:bE) (n0:Nat) (w:Wo) (e:Ending) (w':Wo):Prop:=
 Below w.heap.size w w'/\∃ g1 g2:Nat,e=.returned (.agg #[.slice (some ⟨g1,0,none⟩) n0 n0,.slice (some ⟨g2,0,none⟩) (aI x) (aI x)])/\w.heap.size<=g1/\w.heap.size<=g2/\aG w' g1 3 (ints (nJ x)).toArray/\aG w' g2 3 (ints (xZ x)).toArray
theorem aG5 (x:bE) (n0:Nat) (w:Wo) (e:Ending) (w':Wo) (h:Below w.heap.size w w'/\∃ g1 g2:Nat,e=.returned (.agg #[.slice (some ⟨g1,0,none⟩) n0 n0,.slice (some ⟨g2,0,none⟩) (aI x) (aI x)])/\w.heap.size<=g1/\w.heap.size<=g2/\aG w' g1 3 (ints (nJ x)).toArray/\aG w' g2 3 (ints (xZ x)).toArray):aQP x n0 w e w':=h
theorem aIv (h:cE) (x:bE) (ok:cN x) (w:Wo) (hR:cS w w.heap.size h x) :
    Calls Tryz.prog 59 #[.agg h.cells] w (aQP x h.n0 w):=by
 obtain ⟨A0,n0,c0,A1,n1,c1,A2,n2,c2,A3,n3,c3,A4,n4,c4,A5,n5,c5⟩:=h;dsimp only [cE.cells] at *;have cH:=lH ok;have HP:=lH (aG5 x n0 w);obtain ⟨i0,kC,JI,DG,hi3⟩:=info_parts aDR;have DN:=lH kC;have AR:=lH JI;have J0:=lH DG;have JZ:=lH hi3;have dB:Hid (Below w.heap.size w ((w.alloc (.cells #[.slice A0 n0 c0,.slice A1 n1 c1,.slice A2 n2 c2,.slice A3 n3 c3,.slice A4 n4 c4,.slice A5 n5 c5] 29)).alloc (.cells #[.slice none 0 0,.slice none 0 0] 50))):=lH ((bA).alloc (by simp) _);have HQ0:Hid (aG ((w.alloc (.cells #[.slice A0 n0 c0,.slice A1 n1 c1,.slice A2 n2 c2,.slice A3 n3 c3,.slice A4 n4 c4,.slice A5 n5 c5] 29)).alloc (.cells #[.slice none 0 0,.slice none 0 0] 50)) w.heap.size 29 #[.slice A0 n0 c0,.slice A1 n1 c1,.slice A2 n2 c2,.slice A3 n3 c3,.slice A4 n4 c4,.slice A5 n5 c5]):=lH ((aG.new w _ _).alloc _)
 have HT0:Hid (aG ((w.alloc (.cells #[.slice A0 n0 c0,.slice A1 n1 c1,.slice A2 n2 c2,.slice A3 n3 c3,.slice A4 n4 c4,.slice A5 n5 c5] 29)).alloc (.cells #[.slice none 0 0,.slice none 0 0] 50)) (w.heap.size+1) 50 #[.slice none 0 0,.slice none 0 0]):=lH (aG.new_ (by simp));have HR:=lH (hR.up dB.o);have HN0:Hid (x.nodes.length=n0):=lH hR.r0.1;have iL:Hid (x.brs.length=n2):=lH hR.r2.1;have nO:n0<=24:=by have:=ok.l0;have:=HN0.o;omega
 have hn2:n2<=24:=by have:=ok.l2;have:=iL.o;omega
 have aEg:n0<=9223372036854775807:=by omega
 have JS:Hid (w.heap.size+2<=((w.alloc (.cells #[.slice A0 n0 c0,.slice A1 n1 c1,.slice A2 n2 c2,.slice A3 n3 c3,.slice A4 n4 c4,.slice A5 n5 c5] 29)).alloc (.cells #[.slice none 0 0,.slice none 0 0] 50)).heap.size):=lH (by simp);clear kC JI DG hi3 ok hR;obtain ⟨y0,y1,y2,y3,y4,y5,nf,nlt⟩:=a_ (h:=⟨A0,n0,c0,A1,n1,c1,A2,n2,c2,A3,n3,c3,A4,n4,c4,A5,n5,c5⟩) HQ0.o;go_enter Tryz.func59,Tryz.ntmps59
 go_wp2_with fail
 generalize (w.alloc (.cells #[.slice A0 n0 c0,.slice A1 n1 c1,.slice A2 n2 c2,.slice A3 n3 c3,.slice A4 n4 c4,.slice A5 n5 c5] 29)).alloc (.cells #[.slice none 0 0,.slice none 0 0] 50)=w1 at *;clear y0 y1 y2 y3 y4 y5 nf nlt;refine (aA5 ⟨A0,n0,c0,A1,n1,c1,A2,n2,c2,A3,n3,c3,A4,n4,c4,A5,n5,c5⟩ x cH.o w1 HR.o).mono ?_;rintro e w2 ⟨hb,gb,rfl,hg,b_⟩;dsimp only;have qK:w.heap.size+2<=gb:=cV JS.o hg;have bW:=lH ((dB.o.tm hb).alloc (by have:=hb.size;have:=JS.o;omega) (.cells #[.slice (some ⟨gb,0,none⟩) n0 n0,.slice none 0 0] 50));have rG:=lH ((HQ0.o.bl hb).alloc (.cells #[.slice (some ⟨gb,0,none⟩) n0 n0,.slice none 0 0] 50));have tT:=lH ((HT0.o.bl hb).alloc (.cells #[.slice (some ⟨gb,0,none⟩) n0 n0,.slice none 0 0] 50));have fI:=lH (b_.alloc (.cells #[.slice (some ⟨gb,0,none⟩) n0 n0,.slice none 0 0] 50))
 have dI:Hid (aG (w2.alloc (.cells #[.slice (some ⟨gb,0,none⟩) n0 n0,.slice none 0 0] 50)) w2.heap.size 50 #[.slice (some ⟨gb,0,none⟩) n0 n0,.slice none 0 0]):=lH (aG.new w2 _ _);have I2:gb<w2.heap.size:=b_.lt;have rF:Hid (cS (w2.alloc (.cells #[.slice (some ⟨gb,0,none⟩) n0 n0,.slice none 0 0] 50)) (w2.heap.size+1) ⟨A0,n0,c0,A1,n1,c1,A2,n2,c2,A3,n3,c3,A4,n4,c4,A5,n5,c5⟩ x):=lH (((HR.o.up hb).below (bA) lR).more (by omega));have tQ:w.heap.size+2<=w2.heap.size:=by omega
 have t0':=dI.o.cell 0;clear hb hg b_ HT0 HQ0 dB JS
 go_wp2_with fail
 have HTB:Hid (w2.heap.size<(w2.alloc (.cells #[.slice (some ⟨gb,0,none⟩) n0 n0,.slice none 0 0] 50)).heap.size):=lH (by simp);generalize w2.alloc (.cells #[.slice (some ⟨gb,0,none⟩) n0 n0,.slice none 0 0] 50)=w3 at *;generalize w2.heap.size=tb at *;have qL:=lH (qP cH.o).1;have aJm:Hid ((nJ x).length=n0):=lH (qL.out.trans HN0.o)
 go_loop [4,16] (fun v4 v16=>∃ k:Nat,k<=n0/\v16=.int .i64 k/\v4=.int .i64 (FH ((nJ x).take k))) (fun _ v16=>n0-(intOf v16).toNat)
 case atStart=>exact ⟨0,by omega,rfl,rfl⟩
 case round=>
  obtain ⟨k,hk,rfl,rfl⟩:=hrel
  by_cases aW:k<n0
  ·obtain ⟨b,hb⟩:∃ b,(nJ x)[k]?=some b:=eO (by have:=aJm.o;omega)
   have hc:=XY fI.o hb;have OJ:=lH (TA hb);have CG:=(qP cH.o).2 b (cO hb);have bH:=CG.1;have bL:b<=24:=by have:=CG.2;have:=HN0.o;omega
   have EX:=(MA ((nJ x).take k)).1;clear hb CG;generalize FH ((nJ x).take k)=tk at *;have fT:(k:Int)<(n0:Int):=by omega
   go_wp2_with fail
   go_round
   case rel=>exact ⟨k+1,by omega,by go_num,by rw [OJ.o];first | done | (congr 1;split<;>omega)⟩
   case measure=>simp [intOf];omega
  ·have hkk:n0=k:=by omega
   subst hkk;have aMY:Hid (FH ((nJ x).take n0)=(aI x:Int)):=lH (by rw [nW (by have:=aJm.o;omega)];exact (fR cH.o).1.symm);have hbn:aI x<=24:=by have:=(fR cH.o).2;have:=HN0.o;omega
   rw [aMY.o];obtain ⟨y0,y1,y2,y3,y4,y5,nf,nlt⟩:=a_ (h:=⟨A0,n0,c0,A1,n1,c1,A2,n2,c2,A3,n3,c3,A4,n4,c4,A5,n5,c5⟩) rG.o;obtain ⟨w4,DY⟩:∃ w4:World,w4=w3:=⟨_,rfl⟩;have rG:Hid (aG w4 w.heap.size 29 #[.slice A0 n0 c0,.slice A1 n1 c1,.slice A2 n2 c2,.slice A3 n3 c3,.slice A4 n4 c4,.slice A5 n5 c5]):=lH (by rw [DY];exact rG.o);have bW:Hid (Below w.heap.size w w4):=lH (by rw [DY];exact bW.o);have tT:Hid (aG w4 (w.heap.size+1) 50 #[.slice none 0 0,.slice none 0 0]):=lH (by rw [DY];exact tT.o);have fI:Hid (aG w4 gb 3 (ints (nJ x)).toArray):=lH (by rw [DY];exact fI.o);have dI:Hid (aG w4 tb 50 #[.slice (some ⟨gb,0,none⟩) n0 n0,.slice none 0 0]):=lH (by rw [DY];exact dI.o);have HRF:Hid (cS w4 (tb+1) ⟨A0,n0,c0,A1,n1,c1,A2,n2,c2,A3,n3,c3,A4,n4,c4,A5,n5,c5⟩ x):=lH (by rw [DY];exact rF.o);have HLO:Hid (Below (tb+1) w4 w3):=lH (by rw [DY];exact bR)
   have dW:Hid (tb+1<=w3.heap.size):=lH (by have:=HTB.o;omega);clear DY aW t0'
   go_wp2_with fail
   clear y0 y1 y2 y3 y4 y5 nf nlt
   go_loopw [7,28] (fun v7 i wr=>∃ k:Nat,k<=n2/\i=.int .i64 k/\Below (tb+1) w4 wr/\tb+1<=wr.heap.size/\wr.ownsRow (tb+1) 166 2 v7 k (((x.brs.take k).map fun b=>(aV x b.fr,aV x b.to)).flatMap OH)) (fun _ i _=>n2-(intOf i).toNat)
   case atStart=>exact ⟨0,by omega,rfl,HLO.o,dW.o,World.ownsRow_nil _ _ _ _⟩
   case round=>
    clear HLO dW;obtain ⟨k,hk,rfl,hlo,gW,bF⟩:=hrel;have HLO:=lH hlo;have HOW:=lH bF;have HQ:=lH (rG.o.below hlo (by omega));obtain ⟨y0,y1,y2,y3,y4,y5,nf,nlt⟩:=a_ (h:=⟨A0,n0,c0,A1,n1,c1,A2,n2,c2,A3,n3,c3,A4,n4,c4,A5,n5,c5⟩) HQ.o;clear hlo bF
    by_cases aW:k<n2
    ·obtain ⟨z,hz⟩:∃ z,x.brs[k]?=some z:=eO (by have:=iL.o;omega)
     have hrw:=HRF.o.below HLO.o lR;obtain ⟨bz,oz,hA,M5⟩:=hrw.r2.form (by dsimp only;omega);dsimp only at hA;subst hA;obtain ⟨e0,e1,e2,e3,e4,e5,e6,e7,e8⟩:=hrw.r2.at_ hz;have HRN:=lH hrw.r0;have HZS:=lH (cH.o.br z (cO hz));have HZ:=lH (ZL (fun b:Br=>(aV x b.fr,aV x b.to)) hz);have JO:Hid (k<=1000):=lH (by omega);have HEL:Hid (((x.brs.take k).map fun b:Br=>(aV x b.fr,aV x b.to)).length=k):=lH (by simp;have:=iL.o;omega);have yR:=lH ((Below.refl wr.heap.size wr).alloc lR (.cells #[.string z.name,.string z.fr,.string z.to,.int .i64 z.x,.int .i64 z.tap,.int .i64 z.shift,.int .i64 z.limit,.int .i64 z.short,.int .i64 z.hold] 54));have HO:=lH (TW HOW.o yR.o);have HQB:=lH (HQ.o.below yR.o (by omega));have HXB:=lH ((dI.o.below HLO.o (by omega)).below yR.o (by omega));have HGB:=lH ((fI.o.below HLO.o (by omega)).below yR.o (by omega))
     have HLB:=lH (HLO.o.alloc gW (.cells #[.string z.name,.string z.fr,.string z.to,.int .i64 z.x,.int .i64 z.tap,.int .i64 z.shift,.int .i64 z.limit,.int .i64 z.short,.int .i64 z.hold] 54));have cU:Hid (aG (wr.alloc (.cells #[.string z.name,.string z.fr,.string z.to,.int .i64 z.x,.int .i64 z.tap,.int .i64 z.shift,.int .i64 z.limit,.int .i64 z.short,.int .i64 z.hold] 54)) wr.heap.size 54 #[.string z.name,.string z.fr,.string z.to,.int .i64 z.x,.int .i64 z.tap,.int .i64 z.shift,.int .i64 z.limit,.int .i64 z.short,.int .i64 z.hold]):=lH (aG.new wr _ _)
     have aBi:Hid (bG (wr.alloc (.cells #[.string z.name,.string z.fr,.string z.to,.int .i64 z.x,.int .i64 z.tap,.int .i64 z.shift,.int .i64 z.limit,.int .i64 z.short,.int .i64 z.hold] 54)) (wr.alloc (.cells #[.string z.name,.string z.fr,.string z.to,.int .i64 z.x,.int .i64 z.tap,.int .i64 z.shift,.int .i64 z.limit,.int .i64 z.short,.int .i64 z.hold] 54)).heap.size A0 n0 x.nodes):=lH ((HRN.o.below yR.o (by omega)).more (by simp;omega));have fT:(k:Int)<(n2:Int):=by omega
     clear hz hrw
     go_wp2_with fail
     have hzw:wr.heap.size<(wr.alloc (.cells #[.string z.name,.string z.fr,.string z.to,.int .i64 z.x,.int .i64 z.tap,.int .i64 z.shift,.int .i64 z.limit,.int .i64 z.short,.int .i64 z.hold] 54)).heap.size:=by simp
     have mJ:u7.ownBlock≠some w.heap.size:=fun e=>by have:=(HOW.o.lt _ e).1;omega
     have kD:u7.ownBlock≠some wr.heap.size:=fun e=>by have:=(HOW.o.lt _ e).2;omega
     have pV:u7.ownBlock≠some tb:=fun e=>by have:=(HOW.o.lt _ e).1;omega
     have tY:u7.ownBlock≠some gb:=fun e=>by have:=(HOW.o.lt _ e).1;omega
     clear yR HRN HOW HQ y0 y1 y2 y3 y4 y5 nf nlt e0 e1 e2 e3 e4 e5 e6 e7 e8;generalize hWW:wr.alloc (.cells #[.string z.name,.string z.fr,.string z.to,.int .i64 z.x,.int .i64 z.tap,.int .i64 z.shift,.int .i64 z.limit,.int .i64 z.short,.int .i64 z.hold] 54)=W at *;generalize hzb:wr.heap.size=zb at *;have q0:W.cell? ⟨w.heap.size,0,none⟩=some (.slice A0 n0 c0):=HQB.o.cell 0;have t0:W.cell? ⟨tb,0,none⟩=some (.slice (some ⟨gb,0,none⟩) n0 n0):=HXB.o.cell 0;have b1:W.cell? ⟨zb,1,none⟩=some (.string z.fr):=cU.o.cell 1;have b2:W.cell? ⟨zb,2,none⟩=some (.string z.to):=cU.o.cell 2;have hsa:z.fr∈x.nodes:=HZS.o.1;have mU:z.to∈x.nodes:=HZS.o.2.1;have cf:W.cell? ⟨gb,dN x.nodes z.fr,none⟩=some (.int .i64 (aV x z.fr)):=by rw [<-(dD cH.o hsa).1];exact sJ HGB.o (dD cH.o hsa).2.2
     have ct:W.cell? ⟨gb,dN x.nodes z.to,none⟩=some (.int .i64 (aV x z.to)):=by rw [<-(dD cH.o mU).1];exact sJ HGB.o (dD cH.o mU).2.2
     have hif:dN x.nodes z.fr<n0:=by have:=(dD cH.o hsa).2.2;have:=aJm.o;omega
     have hit:dN x.nodes z.to<n0:=by have:=(dD cH.o mU).2.2;have:=aJm.o;omega
     have a2x:(dN x.nodes z.fr:Int)<(n0:Int):=by omega
     have a2w:(dN x.nodes z.to:Int)<(n0:Int):=by omega
     generalize hE0:((x.brs.take k).map fun b:Br=>(aV x b.fr,aV x b.to))=E0 at *;have HEE:=lH hE0;have c_:tb+1<=W.heap.size:=by omega
     clear hE0 hWW hzb;generalize u7=v7 at *;refine aJ (S:=fun w'=>w'.cell? ⟨w.heap.size,0,none⟩=some (.slice A0 n0 c0)/\w'.cell? ⟨tb,0,none⟩=some (.slice (some ⟨gb,0,none⟩) n0 n0)/\w'.cell? ⟨zb,1,none⟩=some (.string z.fr)/\w'.cell? ⟨zb,2,none⟩=some (.string z.to)/\w'.cell? ⟨gb,dN x.nodes z.fr,none⟩=some (.int .i64 (aV x z.fr))/\w'.cell? ⟨gb,dN x.nodes z.to,none⟩=some (.int .i64 (aV x z.to))) 22 _ (by kernel_rfl) (by kernel_rfl) rfl ⟨q0,t0,b1,b2,cf,ct⟩ (fun hHeld=>?_);simp only [lA,List.take_zero];refine cK 0 (v:=?_) rfl (by kernel_rfl) (fun _ _ _ h=>h) (by rfl) ?_ hHeld ?_;rotate_left 1
     ·intro w' hSw;(try dsimp only at hSw);go_simp<;>with_reducible rfl
     try simp only [Act.put,bP,bO,bN]
     refine cK 1 (v:=?_) rfl (by kernel_rfl) (fun _ _ _ h=>h) (by rfl) ?_ hHeld ?_;rotate_left 1
     ·intro w' hSw;(try dsimp only at hSw);go_simp<;>with_reducible rfl
     try simp only [Act.put,bP,bO,bN]
     refine cK 2 (v:=?_) rfl (by kernel_rfl) (fun _ _ _ h=>h) (by rfl) ?_ hHeld ?_;rotate_left 1
     ·intro w' hSw;(try dsimp only at hSw);go_simp<;>with_reducible rfl
     try simp only [Act.put,bP,bO,bN]
     refine cK 3 (v:=?_) rfl (by kernel_rfl) (fun _ _ _ h=>h) (by rfl) ?_ hHeld ?_;rotate_left 1
     ·intro w' hSw;(try dsimp only at hSw);go_simp<;>with_reducible rfl
     try simp only [Act.put,bP,bO,bN]
     refine cK 4 (v:=?_) rfl (by kernel_rfl) (fun _ _ _ h=>h) (by rfl) ?_ hHeld ?_;rotate_left 1
     ·intro w' hSw;(try dsimp only at hSw);go_simp<;>with_reducible rfl
     try simp only [Act.put,bP,bO,bN]
     refine cK 5 (v:=?_) rfl (by kernel_rfl) (fun _ _ _ h=>h) (by rfl) ?_ hHeld ?_;rotate_left 1
     ·intro w' hSw;(try dsimp only at hSw);go_simp<;>with_reducible rfl
     try simp only [Act.put,bP,bO,bN]
     refine cK 6 (v:=?_) rfl (by kernel_rfl) (fun _ _ _ h=>h) (by rfl) ?_ hHeld ?_;rotate_left 1
     ·intro w' hSw;(try dsimp only at hSw);go_simp<;>with_reducible rfl
     try simp only [Act.put,bP,bO,bN]
     refine cK 10 (v:=?_) rfl (by kernel_rfl) (fun _ _ _ h=>h) (by rfl) ?_ hHeld ?_;rotate_left 1
     ·intro w' hSw;(try dsimp only at hSw);go_simp<;>with_reducible rfl
     try simp only [Act.put,bP,bO,bN]
     refine cK 11 (v:=?_) rfl (by kernel_rfl) (fun _ _ _ h=>h) (by rfl) ?_ hHeld ?_;rotate_left 1
     ·intro w' hSw;(try dsimp only at hSw);go_simp<;>with_reducible rfl
     try simp only [Act.put,bP,bO,bN]
     refine cK 12 (v:=?_) rfl (by kernel_rfl) (fun _ _ _ h=>h) (by rfl) ?_ hHeld ?_;rotate_left 1
     ·intro w' hSw;(try dsimp only at hSw);go_simp<;>with_reducible rfl
     try simp only [Act.put,bP,bO,bN]
     refine cK 13 (v:=?_) rfl (by kernel_rfl) (fun _ _ _ h=>h) (by rfl) ?_ hHeld ?_;rotate_left 1
     ·intro w' hSw;(try dsimp only at hSw);go_simp<;>with_reducible rfl
     try simp only [Act.put,bP,bO,bN]
     refine cK 14 (v:=?_) rfl (by kernel_rfl) (fun _ _ _ h=>h) (by rfl) ?_ hHeld ?_;rotate_left 1
     ·intro w' hSw;(try dsimp only at hSw);go_simp<;>with_reducible rfl
     try simp only [Act.put,bP,bO,bN]
     refine cK 15 (v:=?_) rfl (by kernel_rfl) (fun _ _ _ h=>h) (by rfl) ?_ hHeld ?_;rotate_left 1
     ·intro w' hSw;(try dsimp only at hSw);go_simp<;>with_reducible rfl
     try simp only [Act.put,bP,bO,bN]
     refine aU 7 (by kernel_rfl) rfl (fun K hK=>?_);go_simp;refine (jR A0 n0 c0 x.nodes z.fr W.drew aBi.o aEg).mono ?_;rw [BY hsa];rintro e w' ⟨rfl,rfl⟩;go_simp;refine hK.out _ _ ?_ (fun hHeld=>?_)
     ·exact hHeld
     clear hK K
     try simp only [Act.put,bP,bO,bN]
     refine cK 8 (v:=?_) rfl (by kernel_rfl) (fun _ _ _ h=>h) (by rfl) ?_ hHeld ?_;rotate_left 1
     ·intro w' hSw;(try dsimp only at hSw);go_simp<;>with_reducible rfl
     try simp only [Act.put,bP,bO,bN]
     refine cK 9 (v:=?_) rfl (by kernel_rfl) (fun _ _ _ h=>h) (by rfl) ?_ hHeld ?_;rotate_left 1
     ·intro w' hSw;(try dsimp only at hSw);go_simp<;>with_reducible rfl
     try simp only [Act.put,bP,bO,bN]
     refine aU 16 (by kernel_rfl) rfl (fun K hK=>?_);go_simp;refine (jR A0 n0 c0 x.nodes z.to W.drew aBi.o aEg).mono ?_;rw [BY mU];rintro e w' ⟨rfl,rfl⟩;go_simp;refine hK.out _ _ ?_ (fun hHeld=>?_)
     ·exact hHeld
     clear hK K
     try simp only [Act.put,bP,bO,bN]
     refine cK 17 (v:=?_) rfl (by kernel_rfl) (fun _ _ _ h=>h) (by rfl) ?_ hHeld ?_;rotate_left 1
     ·intro w' hSw;(try dsimp only at hSw);go_simp<;>with_reducible rfl
     try simp only [Act.put,bP,bO,bN]
     refine cK 18 (v:=?_) rfl (by kernel_rfl) (fun _ _ _ h=>h) (by rfl) ?_ hHeld ?_;rotate_left 1
     ·intro w' hSw;(try dsimp only at hSw);go_simp<;>with_reducible rfl
     try simp only [Act.put,bP,bO,bN]
     refine cK 19 (v:=?_) rfl (by kernel_rfl) (fun _ _ _ h=>h) (by rfl) ?_ hHeld ?_;rotate_left 1
     ·intro w' hSw;(try dsimp only at hSw);go_simp<;>with_reducible rfl
     try simp only [Act.put,bP,bO,bN]
     refine aU 20 (by kernel_rfl) rfl (fun K hK=>?_);go_simp;refine hK.out _ _ ?_ (fun hHeld=>?_)
     ·exact ⟨iQ q0 (by omega),iQ t0 (by omega),iQ b1 (by omega),iQ b2 (by omega),iQ cf (by omega),iQ ct (by omega)⟩
     clear hK K
     try simp only [Act.put,bP,bO,bN]
     refine aU 21 (by kernel_rfl) rfl (fun K hK=>?_);refine step_append_lies _ (by rfl) _ _ _ (by rfl) (tb+1) 166 i0 _ 2 16 Tryz.underlying165 DN.o AR.o J0.o JZ.o rfl (by omega) v7 _ _ (by rfl) ((HO.o.alloc _).drew) ⟨W.heap.size,0,none⟩ 1 1 (OH (aV x z.fr,aV x z.to)) (by rfl) (by rfl) (XF W (aV x z.fr,aV x z.to) 166) (aC7 _) (by omega) (by have:=JO.o;simp only [maxLen];omega) (by have:=JO.o;omega) (by simp;omega) (W.heap.size+1) (by simp) ?_;intro gg cap w1 hown1 hgrow LA aPP;refine hK.out _ _ ?_ (fun hHeld=>?_)
     ·exact ⟨(hgrow.cell_far ⟨w.heap.size,0,none⟩ (by simp;omega) (Ne.symm mJ)).trans (iQ q0 (by omega)),(hgrow.cell_far ⟨tb,0,none⟩ (by simp;omega) (Ne.symm pV)).trans (iQ t0 (by omega)),(hgrow.cell_far ⟨zb,1,none⟩ (by simp;omega) (Ne.symm kD)).trans (iQ b1 (by omega)),(hgrow.cell_far ⟨zb,2,none⟩ (by simp;omega) (Ne.symm kD)).trans (iQ b2 (by omega)),(hgrow.cell_far ⟨gb,dN x.nodes z.fr,none⟩ (by simp;omega) (Ne.symm tY)).trans (iQ cf (by omega)),(hgrow.cell_far ⟨gb,dN x.nodes z.to,none⟩ (by simp;omega) (Ne.symm tY)).trans (iQ ct (by omega))⟩
     clear hK K
     try simp only [Act.put,bP,bO,bN]
     refine wpAnyH_done (by kernel_rfl) ?_ _;refine aP (by rfl) ?_;have HS5:Hid (w1.ownsRow (tb+1) 166 2 (.slice (some ⟨gg,0,none⟩) (k+1) cap) (k+1) (((x.brs.take (k+1)).map fun b=>(aV x b.fr,aV x b.to)).flatMap OH)):=lH (by rw [HZ.o,List.flatMap_append];simpa [OH] using hown1);have dX:Hid (Below (tb+1) w4 w1):=lH (HLB.o.trans ((aD (bR.alloc c_ _)).grown hgrow (by simp;omega) (fun k hk=>(HO.o.lt k hk).1)));clear hgrow LA hown1 hHeld;go_simp
     go_wp2_with fail
     go_roundw
     case rel=>exact ⟨k+1,by omega,by go_num,dX.o,by have:=dX.o.size;have:=dI.o.lt;omega,HS5.o⟩
     case measure=>simp [intOf];omega
    ·have hkk:n2=k:=by omega
     subst hkk;have HO2:Hid (wr.ownsRow (tb+1) 166 2 u7 (NJ x).length ((NJ x).flatMap OH)):=lH (by
      have h:=HOW.o;rw [nW (by have:=iL.o;omega)] at h;have e:(NJ x).length=n2:=by unfold NJ;rw [lB];exact iL.o
      rw [e];exact h)
     obtain ⟨A,c,hu7,hE⟩:=XB HO2.o;subst hu7;have HE:=lH hE;have HT3:=lH (tT.o.below HLO.o (by omega));have SS:=lH (dI.o.below HLO.o (by omega));have L3:=lH (fI.o.below HLO.o (by omega));have dR:=lH (bW.o.trans (HLO.o.mono (by omega)));have HBO:=lH (NI cH.o);have HIS:Hid (xZ x=lL (aI x) (NJ x)):=lH rfl;clear HO2 HOW hE;generalize NJ x=es at *
     go_wp2_with fail
     clear y0 y1 y2 y3 y4 y5 nf nlt;refine (RE A c (aI x) es wr HE.o HBO.o.1 hbn (by have:=HBO.o.2;omega)).mono ?_;rintro e w5 ⟨hb,g2,rfl,hg,b_⟩;have HT5:=lH (HT3.o.bl hb);have HX5:=lH (SS.o.bl hb);have HG5:=lH (L3.o.bl hb);have dX:=lH (dR.o.tm hb);have E8:=lH b_;have lE:tb+1<=g2:=by omega
     have x0:=HX5.o.cell 0;have x1:=HX5.o.cell 1;have xf0:=HX5.o.frozen 0;have xf1:=HX5.o.frozen 1;have t0:=HT5.o.cell 0;have t1:=HT5.o.cell 1;have tf0:=HT5.o.frozen 0;have tf1:=HT5.o.frozen 1;have a2j:=HX5.o.lt;have a2i:=HT5.o.lt;have cP:tb≠w.heap.size+1:=by omega
     have a18:w.heap.size+1≠tb:=by omega
     clear hb hg b_
     go_wp2_with fail
     have HT9:Hid (aG (((w5.setCell ⟨tb,1,none⟩ (.slice (some ⟨g2,0,none⟩) (aI x) (aI x))).setCell ⟨w.heap.size+1,0,none⟩ (.slice (some ⟨gb,0,none⟩) n0 n0)).setCell ⟨w.heap.size+1,1,none⟩ (.slice (some ⟨g2,0,none⟩) (aI x) (aI x))) (w.heap.size+1) 50 #[.slice (some ⟨gb,0,none⟩) n0 n0,.slice (some ⟨g2,0,none⟩) (aI x) (aI x)]):=lH (((HT5.o.far (by simp;omega) _).set_at (i:=0) _ (by simp;rfl)).set_at (i:=1) _ (by simp));have cQ:Hid (Below w.heap.size w (((w5.setCell ⟨tb,1,none⟩ (.slice (some ⟨g2,0,none⟩) (aI x) (aI x))).setCell ⟨w.heap.size+1,0,none⟩ (.slice (some ⟨gb,0,none⟩) n0 n0)).setCell ⟨w.heap.size+1,1,none⟩ (.slice (some ⟨g2,0,none⟩) (aI x) (aI x)))):=lH (((dX.o.setCell (by simp;omega) _).setCell (by simp) _).setCell (by simp) _)
     have HG9:Hid (aG (((w5.setCell ⟨tb,1,none⟩ (.slice (some ⟨g2,0,none⟩) (aI x) (aI x))).setCell ⟨w.heap.size+1,0,none⟩ (.slice (some ⟨gb,0,none⟩) n0 n0)).setCell ⟨w.heap.size+1,1,none⟩ (.slice (some ⟨g2,0,none⟩) (aI x) (aI x))) gb 3 (ints (nJ x)).toArray):=lH (((HG5.o.far (by simp;omega) _).far (by simp;omega) _).far (by simp;omega) _);have HK9:Hid (aG (((w5.setCell ⟨tb,1,none⟩ (.slice (some ⟨g2,0,none⟩) (aI x) (aI x))).setCell ⟨w.heap.size+1,0,none⟩ (.slice (some ⟨gb,0,none⟩) n0 n0)).setCell ⟨w.heap.size+1,1,none⟩ (.slice (some ⟨g2,0,none⟩) (aI x) (aI x))) g2 3 (ints (lL (aI x) es)).toArray):=lH (((E8.o.far (by simp;omega) _).far (by simp;omega) _).far (by simp;omega) _)
     generalize ((w5.setCell ⟨tb,1,none⟩ (.slice (some ⟨g2,0,none⟩) (aI x) (aI x))).setCell ⟨w.heap.size+1,0,none⟩ (.slice (some ⟨gb,0,none⟩) n0 n0)).setCell ⟨w.heap.size+1,1,none⟩ (.slice (some ⟨g2,0,none⟩) (aI x) (aI x))=w9 at *;have f0:=HT9.o.cell 0;have f1:=HT9.o.cell 1;refine bodyPost_ret (v:=.agg #[.slice (some ⟨gb,0,none⟩) n0 n0,.slice (some ⟨g2,0,none⟩) (aI x) (aI x)]) (by simp [results,Tryz.results59,go_sem,f0,f1]) rfl ?_;exact HP.o _ _ ⟨cQ.o,gb,g2,rfl,by omega,by omega,HG9.o,by rw [HIS.o];exact HK9.o⟩
end
section
open Go
def GD (md:Region.Mode) (L:List Oper) (n:Nat) (ex:List Nat):Bool:=
 decide (L.length=n+1) &&
 (List.range (n+1)).all (fun j=>match L[j]? with
  | some o=>o.after.all (fun e=>!Region.binds md e || decide (e.on<j)) && (match o.guard with | none=>true | some (g,_)=>decide (g<n))
  | none=>false) &&
 (List.range n).all (fun j=>ex.contains j || (List.range (n+1)).any fun k=>decide (j<k) && match L[k]? with
  | some o=>o.after.any (fun e=>Region.binds md e && e.on == j)
  | none=>false)
section
variable {P:Program} {Q:Exit->Act->World->Prop} {md:Region.Mode}
theorem xY {L:List Oper} {n:Nat} {ex:List Nat} (h:GD md L n ex=true):L.length=n+1/\
    (∀ j o,L[j]?=some o->(∀ e∈o.after,Region.binds md e=true->e.on<j)/\∀ g b,o.guard=some (g,b)->g<n)/\
    (∀ j,j<n->j∈ex\/∃ k o e,j<k/\L[k]?=some o/\e∈o.after/\Region.binds md e=true/\e.on=j):=by
 unfold GD at h;simp only [Bool.and_eq_true,decide_eq_true_eq,List.all_eq_true,List.mem_range,List.any_eq_true,Bool.or_eq_true,List.contains_iff_mem] at h;obtain ⟨⟨h1,h2⟩,h3⟩:=h;refine ⟨h1,fun j o ho=>?_,fun j hj=>?_⟩
 ·have hj:j<n+1:=by rw [<-h1];exact (dP.1 ho).1
  have:=h2 j hj;rw [ho] at this;simp only [Bool.and_eq_true,Array.all_eq_true_iff_forall_mem,Bool.or_eq_true,Bool.not_eq_true',decide_eq_true_eq] at this;refine ⟨fun e he hb=>(this.1 e he).resolve_left (by simp [hb]),fun g b hg=>?_⟩;have h4:=this.2;rw [hg] at h4;simpa using h4
 ·rcases h3 j hj with h3 | ⟨k,hk,hjk,h4⟩
  ·exact .inl h3
  refine .inr ?_;cases ho:L[k]? with
  | none=>rw [ho] at h4;cases h4
  | some o=>
   rw [ho] at h4;simp only [Array.any_eq_true'] at h4;obtain ⟨e,he,h5⟩:=h4;simp only [Bool.and_eq_true,beq_iff_eq] at h5;exact ⟨k,o,e,hjk,ho,he,h5.1,h5.2⟩
theorem RQ {L:List Oper} {n:Nat} {ex:List Nat} {oN:Oper} {listed:Array Bool} (hs:GD md L n ex=true) (hx:∀ j∈ex,listed.getD j false=true) (hN:L[n]?=some oN) (gW:listed.size=n) (hc:mD md (L.take n) listed)
    (hr:∀ e∈oN.after,Region.binds md e=true->(listed.push false).getD e.on false=true):∀ d j,j+d=n->0<d->listed.getD j false=true:=by
 obtain ⟨h1,h2,h3⟩:=xY hs;intro d
 induction d using Nat.strongRecOn with
 | _ d ih=>
  intro j hj hd;rcases h3 j (by omega) with h3 | ⟨k,o,e,hjk,hk,he,hb,hej⟩
  ·exact hx j h3
  have U5:k<n+1:=by rw [<-h1];exact (dP.1 hk).1
  by_cases qW:k=n
  ·subst qW
   rw [hN] at hk;injection hk with hk;subst hk;have:=hr e he hb;rw [hej] at this;rwa [Array.getD_eq_getD_getElem?,Array.getElem?_push_lt (by omega),<-Array.getElem?_eq_getElem (by omega),<-Array.getD_eq_getD_getElem?] at this
  ·have hl:=ih (n-k) (by omega) k (by omega) (by omega)
   have:=hc k o (by rw [List.getElem?_take_of_lt (by omega)];exact hk) hl e he hb;rwa [hej] at this
theorem zI {L:List Oper} {n:Nat} {ex:List Nat} {listed:Array Bool} (hs:GD md L n ex=true) (gW:listed.size=n) {i:Nat} (hi:i<n):i∈Region.ready md L.toArray (listed.push false)<->i∈Region.ready md (L.take n).toArray listed:=by
 obtain ⟨h1,h2,h3⟩:=xY hs;rw [mem_ready,mem_ready,List.getElem?_toArray,List.getElem?_toArray,List.getElem?_take_of_lt hi,gZ (by omega)];refine and_congr Iff.rfl ⟨?_,?_⟩
 ·rintro ⟨o,ho,h⟩
  exact ⟨o,ho,fun e he hb=>by rw [<-gZ (by have:=(h2 i o ho).1 e he hb;omega)];exact h e he hb⟩
 ·rintro ⟨o,ho,h⟩
  exact ⟨o,ho,fun e he hb=>by rw [gZ (by have:=(h2 i o ho).1 e he hb;omega)];exact h e he hb⟩
theorem CY {L:List Oper} {n:Nat} {ex:List Nat} {oN:Oper} (hs:GD md L n ex=true) (hN:L[n]?=some oN):∀ (fuel:Nat) (listed:Array Bool) (a:Act) (w:Wo),listed.size=n->mD md (L.take n) listed->(∀ j∈ex,listed.getD j false=true)->
    wpAny P md (L.take n).toArray (kY P L.toArray oN Q) fuel listed a w->wpAny P md L.toArray Q (fuel+1) (listed.push false) a w:=by
 obtain ⟨h1,h2,h3⟩:=xY hs;have key:∀ (fuel:Nat) (listed:Array Bool) (a:Act) (w:Wo),listed.size=n->mD md (L.take n) listed->Region.ready md (L.take n).toArray listed=[]->kY P L.toArray oN Q .normal a w->wpAny P md L.toArray Q (fuel+1) (listed.push false) a w:=by
  intro fuel listed a w gW hc hr hq;have CH:∀ m j,j<m->j<n->listed.getD j false=true:=by
   intro m
   induction m with
   | zero=>intro j hj;omega
   | succ m ih=>
    intro j hj tL;cases hl:listed.getD j false with
    | true=>rfl
    | false=>
     exfalso;have sQ:j<L.length:=by omega
     have aEk:j∈Region.ready md (L.take n).toArray listed:=by
      rw [mem_ready,List.getElem?_toArray,List.getElem?_take_of_lt tL,oG (by omega),hl];refine ⟨rfl,L[j],jA sQ,fun e he hb=>ih _ ?_ ?_⟩
      ·have:=(h2 j _ (jA sQ)).1 e he hb;omega
      ·have:=(h2 j _ (jA sQ)).1 e he hb;omega
     rw [hr] at aEk;cases aEk
  have GS:=fun j hj=>CH n j hj hj;have hnr:n∈Region.ready md L.toArray (listed.push false):=by
   rw [mem_ready,List.getElem?_toArray];refine ⟨by simp [<-gW],oN,hN,fun e he hb=>?_⟩;have:=(h2 n oN hN).1 e he hb;rw [gZ (by omega)];exact GS _ this
  refine ⟨fun h0=>by rw [h0] at hnr;exact absurd hnr (by simp),fun j hj=>?_⟩;have tL:j=n:=by
   obtain ⟨h0,o,ho,_⟩:=mem_ready.1 hj;rw [List.getElem?_toArray] at ho;have sQ:=(dP.1 ho).1;refine Decidable.byContradiction fun cP=>?_;rw [gZ (by omega),oG (by omega),GS j (by omega)] at h0;cases h0
  subst tL;unfold wpOp;rw [List.getElem?_toArray,hN];simp only;have hd:=DH (md:=md) h1 gW GS;unfold kY at hq;dsimp only at hq
  split
  ·rename_i hw
   rw [if_pos hw] at hq;exact .inl (Oper.wp_mono (fun a' w' h=>wpAny_done hd h fuel) hq)
  ·rename_i hw
   rw [if_neg hw] at hq;exact wpAny_done hd hq fuel
 intro fuel
 induction fuel with
 | zero=>intro listed a w gW hc hx h;exact key 0 listed a w gW hc h.1 h.2
 | succ fuel ih=>
  intro listed a w gW hc hx h
  by_cases hr:Region.ready md (L.take n).toArray listed=[]
  ·exact key (fuel+1) listed a w gW hc hr (h.1 hr)
  ·have SP:n∉Region.ready md L.toArray (listed.push false):=by
    intro hn;obtain ⟨_,o,ho,CH⟩:=mem_ready.1 hn;rw [List.getElem?_toArray,hN] at ho;injection ho with ho;subst ho;have hl:=RQ hs hx hN gW hc CH;apply hr;rw [List.eq_nil_iff_forall_not_mem];intro j hj;obtain ⟨h0,o,ho,_⟩:=mem_ready.1 hj;rw [List.getElem?_toArray] at ho;have sQ:=(dP.1 ho).1;have tL:j<n:=by simp at sQ;omega
    have:=hl (n-j) j (by omega) (by omega);rw [oG (by omega),this] at h0;cases h0
   have aW:∀ j,j∈Region.ready md L.toArray (listed.push false)->j<n:=fun j hj=>by
    obtain ⟨_,o,ho,_⟩:=mem_ready.1 hj;rw [List.getElem?_toArray] at ho;have:=(dP.1 ho).1;have cP:j≠n:=fun e=>SP (e▸hj);omega
   refine ⟨fun h0=>?_,fun j hj=>?_⟩
   ·exfalso
    obtain ⟨j,hj⟩:=List.exists_mem_of_ne_nil _ hr;have tL:j<n:=by
     obtain ⟨_,o,ho,_⟩:=mem_ready.1 hj;rw [List.getElem?_toArray] at ho;have:=(dP.1 ho).1;simp at this;omega
    have:=(zI hs gW tL).2 hj;rw [h0] at this;cases this
   ·have tL:=aW j hj
    have hjr:=(zI hs gW tL).1 hj;refine FA (L:=L) (F:=L.take n) (by rw [List.getElem?_take_of_lt tL]) (fun o ho g b hg=>?_) (fun a' w' hh=>?_) (h.2 j hjr)
    ·rw [List.getElem?_take_of_lt tL] at ho
     rw [List.getElem?_take_of_lt ((h2 j o ho).2 g b hg)]
    ·rw [lK (by omega)]
     exact ih _ a' w' (by simpa using gW) (G_ hc hjr) (fun y hy=>getD_set_true (hx y hy)) hh
theorem BE {S:World->Prop} {id:Nat} {a:Act} {w:Wo} {L:List Oper} (m p:Nat) (op oK oM oN:Oper) (v:Value) (hm:P.follows .mixedOrders=true) (hs:rU .any L (m+3)=true) (yB:rU .any (L.take (m+3)) (m+2)=true) (hs3:GD .any (L.take (m+2)) (m+1) [p]=true)
    (hp:L[p]?=some op) (hpm:p<m+1) (hpa:op.after.all (fun e=>!Region.binds .any e)=true) (hK:L[m+1]?=some oK) (hM:L[m+2]?=some oM) (hN:L[m+3]?=some oN) (hP:yU .any L.toArray (Array.replicate (m+4) false) p=true)
    (hQ:∀ c a w,Q (.panic c) (a.put op.dst v) w->Q (.panic c) a w) (hw:Region.wanted op (yielded L.toArray a.tmps)=true) (hy:∀ w,(execOp a.eval op).run P w=.ok (.value v) w) (hS:S w.drew)
    (h:S w.drew->wpAnyH P .any (L.take (m+1)).toArray (kY P (L.take (m+2)).toArray oK (kY P (L.take (m+3)).toArray oM (kY P L.toArray oN Q))) S m ((Array.replicate (m+1) false).setIfInBounds p true) (a.put op.dst v) w.drew):(Code.region id L.toArray true).wp P Q a w:=by
 obtain ⟨h1,h2,h3⟩:=kP hs;have pW:(L.take (m+3)).take (m+2)=L.take (m+2):=by rw [List.take_take,Nat.min_eq_left (by omega)]
 have uN:(L.take (m+2)).take (m+1)=L.take (m+1):=by rw [List.take_take,Nat.min_eq_left (by omega)]
 refine wp_region_any hm ?_;rw [show L.toArray.size=m+3+1 from by simpa using h1];unfold yU at hP;rw [Bool.and_eq_true,Bool.and_eq_true] at hP;refine wpAny_take (by rw [List.getElem?_toArray];exact hp) hP.1.1 hP.1.2 hP.2 hQ (.inl ⟨hw,hy⟩) ?_;have wV:∀ (F:List Oper) (k:Nat),F[p]?=some op\/F[p]?=none->mD .any F ((Array.replicate k false).setIfInBounds p true):=fun F k hF j o ho hj e he hb=>by
  by_cases hpj:p=j
  ·subst hpj
   rcases hF with hF | hF
   ·rw [hF] at ho;injection ho with ho;subst ho
    have:=Array.all_eq_true_iff_forall_mem.1 hpa e he;rw [hb] at this;cases this
   ·rw [hF] at ho;cases ho
  ·rw [getD_set_ne false hpj] at hj
   exact absurd hj (by rcases Nat.lt_or_ge j k with h' | h'<;>simp [h'])
 have htk:∀ k,(L.take k)[p]?=some op\/(L.take k)[p]?=none:=fun k=>by
  rw [List.getElem?_take]
  split
  ·exact .inl hp
  ·exact .inr rfl
 rw [Array.replicate_succ,lK (by simp;omega)];refine jC hs hN (m+2) _ _ _ (by simp) (wV _ _ (htk _)) ?_;rw [Array.replicate_succ,lK (by simp;omega)];refine jC yB (by rw [List.getElem?_take_of_lt (by omega)];exact hM) (m+1) _ _ _ (by simp) (wV _ _ (by rw [pW];exact htk _)) ?_;rw [pW,Array.replicate_succ,lK (by simp;omega)];refine CY hs3 (by rw [List.getElem?_take_of_lt (by omega)];exact hK) m _ _ _ (by simp) (wV _ _ (by rw [uN];exact htk _)) (fun j hj=>by rw [List.mem_singleton.1 hj];simp;omega) ?_;rw [uN];exact wpAny_of_held _ _ _ _ (h hS)
end
section
variable {P:Program} {Q:Exit->Act->World->Prop}
theorem jQ {S:World->Prop} {id:Nat} {a:Act} {w:Wo} {L:List Oper} (m p:Nat) (op oJ oK oM oN:Oper) (v:Value) (hm:P.follows .mixedOrders=true) (hs:rU .any L (m+4)=true) (yB:rU .any (L.take (m+4)) (m+3)=true) (hs3:rU .any (L.take (m+3)) (m+2)=true) (hs4:GD .any (L.take (m+2)) (m+1) [p]=true)
    (hp:L[p]?=some op) (hpm:p<m+1) (hpa:op.after.all (fun e=>!Region.binds .any e)=true) (hJ:L[m+1]?=some oJ) (hK:L[m+2]?=some oK) (hM:L[m+3]?=some oM) (hN:L[m+4]?=some oN) (hP:yU .any L.toArray (Array.replicate (m+5) false) p=true)
    (hQ:∀ c a w,Q (.panic c) (a.put op.dst v) w->Q (.panic c) a w) (hw:Region.wanted op (yielded L.toArray a.tmps)=true) (hy:∀ w,(execOp a.eval op).run P w=.ok (.value v) w) (hS:S w.drew)
    (h:S w.drew->wpAnyH P .any (L.take (m+1)).toArray (kY P (L.take (m+2)).toArray oJ (kY P (L.take (m+3)).toArray oK (kY P (L.take (m+4)).toArray oM (kY P L.toArray oN Q)))) S m ((Array.replicate (m+1) false).setIfInBounds p true) (a.put op.dst v) w.drew):(Code.region id L.toArray true).wp P Q a w:=by
 obtain ⟨h1,h2,h3⟩:=kP hs;have EX:(L.take (m+4)).take (m+3)=L.take (m+3):=by rw [List.take_take,Nat.min_eq_left (by omega)]
 have pW:(L.take (m+3)).take (m+2)=L.take (m+2):=by rw [List.take_take,Nat.min_eq_left (by omega)]
 have uN:(L.take (m+2)).take (m+1)=L.take (m+1):=by rw [List.take_take,Nat.min_eq_left (by omega)]
 refine wp_region_any hm ?_;rw [show L.toArray.size=m+4+1 from by simpa using h1];unfold yU at hP;rw [Bool.and_eq_true,Bool.and_eq_true] at hP;refine wpAny_take (by rw [List.getElem?_toArray];exact hp) hP.1.1 hP.1.2 hP.2 hQ (.inl ⟨hw,hy⟩) ?_;have wV:∀ (F:List Oper) (k:Nat),F[p]?=some op\/F[p]?=none->mD .any F ((Array.replicate k false).setIfInBounds p true):=fun F k hF j o ho hj e he hb=>by
  by_cases hpj:p=j
  ·subst hpj
   rcases hF with hF | hF
   ·rw [hF] at ho;injection ho with ho;subst ho
    have:=Array.all_eq_true_iff_forall_mem.1 hpa e he;rw [hb] at this;cases this
   ·rw [hF] at ho;cases ho
  ·rw [getD_set_ne false hpj] at hj
   exact absurd hj (by rcases Nat.lt_or_ge j k with h' | h'<;>simp [h'])
 have htk:∀ k,(L.take k)[p]?=some op\/(L.take k)[p]?=none:=fun k=>by
  rw [List.getElem?_take]
  split
  ·exact .inl hp
  ·exact .inr rfl
 rw [Array.replicate_succ,lK (by simp;omega)];refine jC hs hN (m+3) _ _ _ (by simp) (wV _ _ (htk _)) ?_;rw [Array.replicate_succ,lK (by simp;omega)];refine jC yB (by rw [List.getElem?_take_of_lt (by omega)];exact hM) (m+2) _ _ _ (by simp) (wV _ _ (by rw [EX];exact htk _)) ?_;rw [EX,Array.replicate_succ,lK (by simp;omega)];refine jC hs3 (by rw [List.getElem?_take_of_lt (by omega)];exact hK) (m+1) _ _ _ (by simp) (wV _ _ (by rw [pW];exact htk _)) ?_;rw [pW,Array.replicate_succ,lK (by simp;omega)];refine CY hs4 (by rw [List.getElem?_take_of_lt (by omega)];exact hJ) m _ _ _ (by simp) (wV _ _ (by rw [uN];exact htk _)) (fun j hj=>by rw [List.mem_singleton.1 hj];simp;omega) ?_;rw [uN];exact wpAny_of_held _ _ _ _ (h hS)
end
end
section
open Go.ChangeShapes Go.WideShapes Go.ChangeAt Go.RowKit Go.Joins Go.Deep Go.Maps
attribute [local go_sem ↓] aE
attribute [local go_sem] aK aH aM aY
theorem VF (w:Wo) (row:Option Nat):w.grownBy w row:=⟨rfl,rfl,rfl,lR,fun _ _ _=>rfl⟩
theorem Ck.start {w:Wo} {b:Nat} {h:cE} {x:bE} (hS:iW w b 0 []) (r:cS w w.heap.size h x):Ck w w b h.A0 h.n0 x.nodes h x []:=⟨VF _ _,hS,r.r0,r⟩
theorem RN (h:cE) (x:bE) (w:Wo) (r:cS w w.heap.size h x) (hl:lM x) :
    Calls Tryz.prog 58 #[.agg h.cells] w fun e w'=>e=.returned (.int .i64 (fK x))/\Below w.heap.size w w':=by
 have HR:=lH (show fK x=2 by unfold fK;rw [if_pos hl]);have K0:Below w.heap.size w (w.alloc (.cells h.cells 29)):=bA;have HK:=lH K0;have l0:=r.r0.1;have l1:=r.r1.1;have l2:=r.r2.1;have l3:=r.r3.1;have l4:=r.r4.1;have l5:=r.r5.1;have i0:=r.m0;have i1:=r.m1;have i2:=r.m2;have i3:=r.m3;have i4:=r.m4;have i5:=r.m5;unfold lM at hl;rw [l0,l1,l2,l3,l4,l5] at hl;clear K0 l0 l1 l2 l3 l4 l5 r;obtain ⟨A0,m0,c0,A1,m1,c1,A2,m2,c2,A3,m3,c3,A4,m4,c4,A5,m5,c5⟩:=h;dsimp only [cE.cells] at *
 by_cases h0:24<m0
 ·clear hl
  go_enter Tryz.func58,Tryz.ntmps58
  go_wp2_with fail
  go_ret;exact ⟨aX HR.o.symm,HK.o⟩
 ·skip
  by_cases h1:32<m1
  ·clear hl
   go_enter Tryz.func58,Tryz.ntmps58
   go_wp2_with fail
   go_ret;exact ⟨aX HR.o.symm,HK.o⟩
  ·skip
   by_cases h2:24<m2
   ·clear hl
    go_enter Tryz.func58,Tryz.ntmps58
    go_wp2_with fail
    go_ret;exact ⟨aX HR.o.symm,HK.o⟩
   ·skip
    by_cases h3:10<m3
    ·clear hl
     go_enter Tryz.func58,Tryz.ntmps58
     go_wp2_with fail
     go_ret;exact ⟨aX HR.o.symm,HK.o⟩
    ·skip
     by_cases h4:12<m4
     ·clear hl
      go_enter Tryz.func58,Tryz.ntmps58
      go_wp2_with fail
      go_ret;exact ⟨aX HR.o.symm,HK.o⟩
     ·skip
      have h5:4<m5:=by omega
      clear hl;go_enter Tryz.func58,Tryz.ntmps58
      go_wp2_with fail
      go_ret;exact ⟨aX HR.o.symm,HK.o⟩
theorem RM (h:cE) (x:bE) (w:Wo) (r:cS w w.heap.size h x) (hl:¬lM x) :
    Calls Tryz.prog 58 #[.agg h.cells] w fun e w'=>e=.returned (.int .i64 (fK x))/\Below w.heap.size w w':=by
 have HW0:Hid (fK x=ck0 x):=lH (by unfold fK;rw [if_neg hl]);have l0:=r.r0.1;have l1:=r.r1.1;have l2:=r.r2.1;have l3:=r.r3.1;have l4:=r.r4.1;have l5:=r.r5.1;unfold lM at hl;rw [l0,l1,l2,l3,l4,l5] at hl;obtain ⟨A0,m0,c0,A1,m1,c1,A2,m2,c2,A3,m3,c3,A4,m4,c4,A5,m5,c5⟩:=h;dsimp only [cE.cells] at *;have a2h:m0<=24:=by omega
 have JG:m1<=32:=by omega
 have sP:m2<=24:=by omega
 have hm3:m3<=10:=by omega
 have hm4:m4<=12:=by omega
 have hm5:m5<=4:=by omega
 have hm0:m0<=9223372036854775807:=by omega
 clear hl l0 l1 l2 l3 l4 l5;generalize hnd:x.nodes=nodes;have AX:=lH hnd;have K1:Below w.heap.size w (((w.alloc (.cells #[.slice A0 m0 c0,.slice A1 m1 c1,.slice A2 m2 c2,.slice A3 m3 c3,.slice A4 m4 c4,.slice A5 m5 c5] 29)).alloc (.map #[] 0)).alloc (.cells #[.map (some (w.heap.size+1)),.slice A0 m0 c0] 161)):=((bA).alloc (by simp) _).alloc (by simp;omega) _;have bL:Below (w.heap.size+1+1) ((w.alloc (.cells #[.slice A0 m0 c0,.slice A1 m1 c1,.slice A2 m2 c2,.slice A3 m3 c3,.slice A4 m4 c4,.slice A5 m5 c5] 29)).alloc (.map #[] 0)) (((w.alloc (.cells #[.slice A0 m0 c0,.slice A1 m1 c1,.slice A2 m2 c2,.slice A3 m3 c3,.slice A4 m4 c4,.slice A5 m5 c5] 29)).alloc (.map #[] 0)).alloc (.cells #[.map (some (w.heap.size+1)),.slice A0 m0 c0] 161)):=bR.alloc (by simp) _
 have hS0:iW (((w.alloc (.cells #[.slice A0 m0 c0,.slice A1 m1 c1,.slice A2 m2 c2,.slice A3 m3 c3,.slice A4 m4 c4,.slice A5 m5 c5] 29)).alloc (.map #[] 0)).alloc (.cells #[.map (some (w.heap.size+1)),.slice A0 m0 c0] 161)) (w.heap.size+1) 0 []:=by
  have h0:=iW.made (w.alloc (.cells #[.slice A0 m0 c0,.slice A1 m1 c1,.slice A2 m2 c2,.slice A3 m3 c3,.slice A4 m4 c4,.slice A5 m5 c5] 29));have h1:=h0.below (bR.alloc lR (.cells #[.map (some (w.heap.size+1)),.slice A0 m0 c0] 161));simpa using h1
 have HC:=lH (Ck.start hS0 (r.up K1));have rG:Hid (aG (((w.alloc (.cells #[.slice A0 m0 c0,.slice A1 m1 c1,.slice A2 m2 c2,.slice A3 m3 c3,.slice A4 m4 c4,.slice A5 m5 c5] 29)).alloc (.map #[] 0)).alloc (.cells #[.map (some (w.heap.size+1)),.slice A0 m0 c0] 161)) w.heap.size 29 #[.slice A0 m0 c0,.slice A1 m1 c1,.slice A2 m2 c2,.slice A3 m3 c3,.slice A4 m4 c4,.slice A5 m5 c5]):=lH (((aG.new w _ _).alloc _).alloc _);have yK:Hid (aG (((w.alloc (.cells #[.slice A0 m0 c0,.slice A1 m1 c1,.slice A2 m2 c2,.slice A3 m3 c3,.slice A4 m4 c4,.slice A5 m5 c5] 29)).alloc (.map #[] 0)).alloc (.cells #[.map (some (w.heap.size+1)),.slice A0 m0 c0] 161)) (w.heap.size+1+1) 161 #[.map (some (w.heap.size+1)),.slice A0 m0 c0]):=lH (aG.new_ (by simp));have oI:=lH HC.o.net
 have IV:Hid (∀ {w':Wo},(((w.alloc (.cells #[.slice A0 m0 c0,.slice A1 m1 c1,.slice A2 m2 c2,.slice A3 m3 c3,.slice A4 m4 c4,.slice A5 m5 c5] 29)).alloc (.map #[] 0)).alloc (.cells #[.map (some (w.heap.size+1)),.slice A0 m0 c0] 161)).grownBy w' (some (w.heap.size+1))->Below w.heap.size w w'):=
  lH fun hg=>yG K1 hg (by omega) lR
 obtain ⟨y0,y1,y2,y3,y4,y5,nf,nlt⟩:=a_ (h:=⟨A0,m0,c0,A1,m1,c1,A2,m2,c2,A3,m3,c3,A4,m4,c4,A5,m5,c5⟩) rG.o;rw [hnd] at HC;clear r hnd K1 bL hS0;have aEl:=@run_makeMap Tryz.prog;go_enter Tryz.func58,Tryz.ntmps58
 go_wp2_with fail
 clear aEl;generalize hWW:(((w.alloc (.cells #[.slice A0 m0 c0,.slice A1 m1 c1,.slice A2 m2 c2,.slice A3 m3 c3,.slice A4 m4 c4,.slice A5 m5 c5] 29)).alloc (.map #[] 0)).alloc (.cells #[.map (some (w.heap.size+1)),.slice A0 m0 c0] 161))=W0 at *;clear hWW;have aJ_:Hid (x.nodes.length=m0):=lH oI.o.r0.1
 go_loopw [55] (fun i wr=>∃ (k:Nat) (seen0:List ByteArray),k<=m0/\i=.int .i64 k/\Ck W0 wr (w.heap.size+1) A0 m0 nodes ⟨A0,m0,c0,A1,m1,c1,A2,m2,c2,A3,m3,c3,A4,m4,c4,A5,m5,c5⟩ x seen0/\aG wr (w.heap.size+1+1) 161 #[.map (some (w.heap.size+1)),.slice A0 m0 c0]/\aG wr w.heap.size 29 #[.slice A0 m0 c0,.slice A1 m1 c1,.slice A2 m2 c2,.slice A3 m3 c3,.slice A4 m4 c4,.slice A5 m5 c5]/\seen0.length<=k/\bM (tM nodes) id [] x.nodes=bM (tM nodes) id seen0 (x.nodes.drop k)) (fun i _=>m0-(intOf i).toNat)
 case atStart=>exact ⟨0,[],by omega,rfl,HC.o,yK.o,rG.o,by simp,rfl⟩
 case round=>
  clear HC yK rG oI;obtain ⟨k,seen0,hk,rfl,hC,m_,mV,GP,nP⟩:=hrel;have HC:=lH hC;have yK:=lH m_;have rG:=lH mV;have jB:=lH nP;obtain ⟨g0,g1,gf,glt⟩:=kZ m_;obtain ⟨y0,y1,y2,y3,y4,y5,nf,nlt⟩:=a_ (h:=⟨A0,m0,c0,A1,m1,c1,A2,m2,c2,A3,m3,c3,A4,m4,c4,A5,m5,c5⟩) mV;have CF:=hC.sn.lt;have oI:=lH hC.net;clear hC m_ mV nP
  by_cases aW:k<m0
  ·obtain ⟨z,hz⟩:∃ z,x.nodes[k]?=some z:=eO (by have:=aJ_.out;omega)
   obtain ⟨bz,oz,hA,M5⟩:=HC.o.net.r0.form (by dsimp only;omega);dsimp only at hA;subst hA;have e0:=HC.o.net.r0.at_ hz;have hzn:=HC.o.net.z0 z (cO hz);have HZ:=lH (cM hz);clear hz
   go_wp2_with fail
   refine (mX (w.heap.size+1) _ _ m0 c0 nodes seen0 z _ 0 0 [] _ HC.o.rn hm0 HC.o.sn (by omega) hzn (Z5 _ _ _) (by omega)).mono ?_;generalize hR:mG nodes seen0 z []=r;rintro e w2 ⟨rfl,lE,QR⟩;have m_:=aG.grown yK.o lE (fun e=>by injection e;omega);have mV:=aG.grown rG.o lE (fun e=>by injection e;omega);have fI:=lH (fJ HC.o.gr lE);have nQ:=lH QR;have Hg2:=lH lE;have IL:=lH m_;have AO:=lH mV;have tU:=lH hR;clear lE QR m_ mV hR e0
   by_cases gL:r=0
   ·subst gL
    have SB:=lH (HC.o.put Hg2.o (nQ.o rfl));have hf:tM nodes seen0 z=0:=tU.o;have HF:=lH hf;clear hf
    go_wp2_with fail
    go_roundw
    case rel=>exact ⟨k+1,z::seen0,by omega,by go_num,SB.o,IL.o,AO.o,by simp;omega,by rw [jB.o];exact oV HZ.o HF.o⟩
    case measure=>simp [intOf];omega
   ·have zW:(r != 0)=true:=by simpa using gL
    have hr:(bM (tM nodes) id [] x.nodes).1=r:=by rw [jB.o];exact eB HZ.o tU.o gL
    have rF:=lH hr;have CS:=lH gL;clear hr gL
    go_wp2_with fail
    go_ret;exact ⟨aX (by rw [HW0.o];unfold ck0;rw [(show tM x.nodes=tM nodes by rw [AX.o]),if_pos (by rw [rF.o];exact CS.o),rF.o]),IV.o fI.o⟩
  ·have hd:x.nodes.drop k=[]:=by rw [List.drop_eq_nil_iff];have:=aJ_.out;omega
   have hr:bM (tM nodes) id [] x.nodes=(0,seen0):=by rw [jB.o,hd];rfl
   have HL0:=lH hr;have aZs:seen0.length<=m0:=by omega
   clear hd hr GP;have JQ:Hid (fK x=ck1 x seen0):=lH (by rw [HW0.o];unfold ck0;rw [show tM x.nodes=tM nodes by rw [AX.o],HL0.o];rfl)
   go_wp2_with fail
   have aJ9:Hid (x.sws.length=m1):=lH oI.o.r1.1
   go_loopw [69] (fun i wr=>∃ (k:Nat) (seen1:List ByteArray),k<=m1/\i=.int .i64 k/\Ck W0 wr (w.heap.size+1) A0 m0 nodes ⟨A0,m0,c0,A1,m1,c1,A2,m2,c2,A3,m3,c3,A4,m4,c4,A5,m5,c5⟩ x seen1/\aG wr (w.heap.size+1+1) 161 #[.map (some (w.heap.size+1)),(.slice A0 m0 c0)]/\aG wr w.heap.size 29 #[.slice A0 m0 c0,.slice A1 m1 c1,.slice A2 m2 c2,.slice A3 m3 c3,.slice A4 m4 c4,.slice A5 m5 c5]/\seen1.length<=seen0.length+k/\bM (fSw nodes) Sw.name seen0 x.sws=bM (fSw nodes) Sw.name seen1 (x.sws.drop k)) (fun i _=>m1-(intOf i).toNat)
   case atStart=>exact ⟨0,seen0,by omega,rfl,HC.o,yK.o,rG.o,by omega,rfl⟩
   case round=>
    clear HC yK rG oI;obtain ⟨k,seen1,hk,rfl,hC,m_,mV,GP,nP⟩:=hrel;have HC:=lH hC;have yK:=lH m_;have rG:=lH mV;have jB:=lH nP;obtain ⟨g0,g1,gf,glt⟩:=kZ m_;obtain ⟨y0,y1,y2,y3,y4,y5,nf,nlt⟩:=a_ (h:=⟨A0,m0,c0,A1,m1,c1,A2,m2,c2,A3,m3,c3,A4,m4,c4,A5,m5,c5⟩) mV;have CF:=hC.sn.lt;have oI:=lH hC.net;clear hC m_ mV nP
    by_cases aW:k<m1
    ·obtain ⟨z,hz⟩:∃ z,x.sws[k]?=some z:=eO (by have:=aJ9.out;omega)
     obtain ⟨bz,oz,hA,M5⟩:=HC.o.net.r1.form (by dsimp only;omega);dsimp only at hA;subst hA;obtain ⟨e0,e1,e2,e3,e4⟩:=HC.o.net.r1.at_ hz;have hzn:=HC.o.net.z1 z (cO hz);have HZ:=lH (cM hz);clear hz
     go_wp2_with fail
     have hB:=CP wr (.cells #[.string z.name,.string z.a,.string z.b,.bool z.breaker,.bool z.opn] 148) (.cells #[.string z.a,.string z.b] 9);have hE:bG ((wr.alloc (.cells #[.string z.name,.string z.a,.string z.b,.bool z.breaker,.bool z.opn] 148)).alloc (.cells #[.string z.a,.string z.b] 9)) ((wr.alloc (.cells #[.string z.name,.string z.a,.string z.b,.bool z.breaker,.bool z.opn] 148)).alloc (.cells #[.string z.a,.string z.b] 9)).heap.size (some ⟨wr.heap.size+1,0,none⟩) 2 [z.a,z.b]:=eR (zs:=[z.a,z.b]) (aG.new_ (by simp)) (by simp);have wW:=HC.o.below hB;refine (mX (w.heap.size+1) _ _ m0 c0 nodes seen1 z.name _ 2 2 [z.a,z.b] _ wW.rn hm0 wW.sn (by omega) hzn hE (by omega)).mono ?_;generalize hR:mG nodes seen1 z.name [z.a,z.b]=r;rintro e w2 ⟨rfl,lE,QR⟩
     have K2:aG w2 wr.heap.size 148 #[.string z.name,.string z.a,.string z.b,.bool z.breaker,.bool z.opn]:=aG.grown ((aG.new wr _ _).alloc _) lE (fun e=>by injection e;omega);have m_:aG w2 (w.heap.size+1+1) 161 #[.map (some (w.heap.size+1)),(.slice A0 m0 c0)]:=aG.grown (yK.o.bl hB) lE (fun e=>by injection e;omega);have mV:=aG.grown (rG.o.bl hB) lE (fun e=>by injection e;omega);have fI:=lH (fJ wW.gr lE);have nQ:=lH QR;have N4:=lH wW;have Hg2:=lH lE;obtain ⟨f0,f1,f2,f3,f4,ff,flt⟩:=Sw.box K2;have IL:=lH m_;have AO:=lH mV;have tU:=lH hR;clear hB hE wW lE QR K2 m_ mV hR e0 e1 e2 e3 e4
     by_cases gL:r=0
     ·subst gL
      have SB:=lH (N4.o.put Hg2.o (nQ.o rfl));have hf:fSw nodes seen1 z=0:=by unfold fSw Sw.bad;rw [tU.o];simp []
      have HF:=lH hf;clear hf
      go_wp2_with (first | (go_at_call 130;refine (dC _ _).mono ?_;rintro e w' ⟨rfl,rfl⟩) | (go_at_call 129;refine (eA _ _ _ _).mono ?_;rintro e w' ⟨rfl,rfl⟩))
      go_roundw
      case rel=>exact ⟨k+1,z.name::seen1,by omega,by go_num,SB.o,IL.o,AO.o,by simp;omega,by rw [jB.o];exact oV HZ.o HF.o⟩
      case measure=>simp [intOf];omega
     ·have zW:(r != 0)=true:=by simpa using gL
      have hf:fSw nodes seen1 z=r:=by unfold fSw;rw [tU.o,if_pos gL]
      have hr:(bM (fSw nodes) Sw.name seen0 x.sws).1=r:=by rw [jB.o];exact eB HZ.o hf gL
      have rF:=lH hr;have CS:=lH gL;clear hf hr gL
      go_wp2_with fail
      go_ret;exact ⟨aX (by rw [JQ.o];unfold ck1;rw [AX.o,if_pos (by rw [rF.o];exact CS.o),rF.o]),IV.o fI.o⟩
    ·have hd:x.sws.drop k=[]:=by rw [List.drop_eq_nil_iff];have:=aJ9.out;omega
     have hr:bM (fSw nodes) Sw.name seen0 x.sws=(0,seen1):=by rw [jB.o,hd];rfl
     have OL:=lH hr;have aZr:seen1.length<=seen0.length+m1:=by omega
     clear hd hr GP;have X6:=oI;have NS:Hid (fK x=ck2 x seen1):=lH (by rw [JQ.o];unfold ck1;rw [AX.o,OL.o];rfl)
     go_wp2_with fail
     have aJ8:Hid (x.brs.length=m2):=lH oI.o.r2.1
     go_loopw [89] (fun i wr=>∃ (k:Nat) (seen2:List ByteArray),k<=m2/\i=.int .i64 k/\Ck W0 wr (w.heap.size+1) A0 m0 nodes ⟨A0,m0,c0,A1,m1,c1,A2,m2,c2,A3,m3,c3,A4,m4,c4,A5,m5,c5⟩ x seen2/\aG wr (w.heap.size+1+1) 161 #[.map (some (w.heap.size+1)),(.slice A0 m0 c0)]/\aG wr w.heap.size 29 #[.slice A0 m0 c0,.slice A1 m1 c1,.slice A2 m2 c2,.slice A3 m3 c3,.slice A4 m4 c4,.slice A5 m5 c5]/\seen2.length<=seen1.length+k/\bM (VI nodes) Br.name seen1 x.brs=bM (VI nodes) Br.name seen2 (x.brs.drop k)) (fun i _=>m2-(intOf i).toNat)
     case atStart=>exact ⟨0,seen1,by omega,rfl,HC.o,yK.o,rG.o,by omega,rfl⟩
     case round=>
      clear HC yK rG oI;obtain ⟨k,seen2,hk,rfl,hC,m_,mV,GP,nP⟩:=hrel;have HC:=lH hC;have yK:=lH m_;have rG:=lH mV;have jB:=lH nP;obtain ⟨g0,g1,gf,glt⟩:=kZ m_;obtain ⟨y0,y1,y2,y3,y4,y5,nf,nlt⟩:=a_ (h:=⟨A0,m0,c0,A1,m1,c1,A2,m2,c2,A3,m3,c3,A4,m4,c4,A5,m5,c5⟩) mV;have CF:=hC.sn.lt;have oI:=lH hC.net;clear hC m_ mV nP
      by_cases aW:k<m2
      ·obtain ⟨z,hz⟩:∃ z,x.brs[k]?=some z:=eO (by have:=aJ8.out;omega)
       obtain ⟨bz,oz,hA,M5⟩:=HC.o.net.r2.form (by dsimp only;omega);dsimp only at hA;subst hA;obtain ⟨e0,e1,e2,e3,e4,e5,e6,e7,e8⟩:=HC.o.net.r2.at_ hz;have hzn:=HC.o.net.z2 z (cO hz);have HZ:=lH (cM hz);clear hz
       go_wp2_with fail
       have hB:=CP wr (.cells #[.string z.name,.string z.fr,.string z.to,.int .i64 z.x,.int .i64 z.tap,.int .i64 z.shift,.int .i64 z.limit,.int .i64 z.short,.int .i64 z.hold] 54) (.cells #[.string z.fr,.string z.to] 9);have hE:bG ((wr.alloc (.cells #[.string z.name,.string z.fr,.string z.to,.int .i64 z.x,.int .i64 z.tap,.int .i64 z.shift,.int .i64 z.limit,.int .i64 z.short,.int .i64 z.hold] 54)).alloc (.cells #[.string z.fr,.string z.to] 9)) ((wr.alloc (.cells #[.string z.name,.string z.fr,.string z.to,.int .i64 z.x,.int .i64 z.tap,.int .i64 z.shift,.int .i64 z.limit,.int .i64 z.short,.int .i64 z.hold] 54)).alloc (.cells #[.string z.fr,.string z.to] 9)).heap.size (some ⟨wr.heap.size+1,0,none⟩) 2 [z.fr,z.to]:=eR (zs:=[z.fr,z.to]) (aG.new_ (by simp)) (by simp);have wW:=HC.o.below hB
       refine (mX (w.heap.size+1) _ _ m0 c0 nodes seen2 z.name _ 2 2 [z.fr,z.to] _ wW.rn hm0 wW.sn (by omega) hzn hE (by omega)).mono ?_;generalize hR:mG nodes seen2 z.name [z.fr,z.to]=r;rintro e w2 ⟨rfl,lE,QR⟩;have K2:aG w2 wr.heap.size 54 #[.string z.name,.string z.fr,.string z.to,.int .i64 z.x,.int .i64 z.tap,.int .i64 z.shift,.int .i64 z.limit,.int .i64 z.short,.int .i64 z.hold]:=aG.grown ((aG.new wr _ _).alloc _) lE (fun e=>by injection e;omega);have m_:aG w2 (w.heap.size+1+1) 161 #[.map (some (w.heap.size+1)),(.slice A0 m0 c0)]:=aG.grown (yK.o.bl hB) lE (fun e=>by injection e;omega);have mV:=aG.grown (rG.o.bl hB) lE (fun e=>by injection e;omega);have fI:=lH (fJ wW.gr lE);have nQ:=lH QR;have N4:=lH wW;have Hg2:=lH lE;obtain ⟨f0,f1,f2,f3,f4,f5,f6,f7,f8,ff,flt⟩:=Br.box K2;have IL:=lH m_;have AO:=lH mV
       have tU:=lH hR;clear hB hE wW lE QR K2 m_ mV hR e0 e1 e2 e3 e4 e5 e6 e7 e8
       by_cases gL:r=0
       ·subst gL
        have SB:=lH (N4.o.put Hg2.o (nQ.o rfl))
        go_wp2_with fail
        refine (PQ z _).mono ?_;rintro e w3 ⟨rfl,k3⟩;have HC4:=lH (SB.o.below k3);have aRU:=lH (IL.o.bl k3);have aRT:=lH (AO.o.bl k3);have L3:=lH (fJ fI.o (gK k3 _));clear k3;cases hbad:z.bad with
        | true=>
         have iX:z.ck=4:=by unfold Br.ck;rw [hbad];rfl
         have hf:VI nodes seen2 z=4:=by unfold VI;rw [tU.o,iX];rfl
         have hr:(bM (VI nodes) Br.name seen1 x.brs).1=4:=by rw [jB.o];exact eB HZ.o hf (by omega)
         have rF:=lH hr;clear hf hr hbad
         go_wp2_with fail
         go_ret;exact ⟨aX (by rw [NS.o];unfold ck2;rw [AX.o,if_pos (by rw [rF.o];omega),rF.o]),IV.o L3.o⟩
        | false=>
         have iX:z.ck=0:=by unfold Br.ck;rw [hbad];rfl
         have hf:VI nodes seen2 z=0:=by unfold VI;rw [tU.o,iX];rfl
         have HF:=lH hf;clear hf hbad
         go_wp2_with fail
         go_roundw
         case rel=>exact ⟨k+1,z.name::seen2,by omega,by go_num,HC4.o,aRU.o,aRT.o,by simp;omega,by rw [jB.o];exact oV HZ.o HF.o⟩
         case measure=>simp [intOf];omega
       ·have zW:(r != 0)=true:=by simpa using gL
        have hf:VI nodes seen2 z=r:=by unfold VI;rw [tU.o,if_pos gL]
        have hr:(bM (VI nodes) Br.name seen1 x.brs).1=r:=by rw [jB.o];exact eB HZ.o hf gL
        have rF:=lH hr;have CS:=lH gL;clear hf hr gL
        go_wp2_with fail
        go_ret;exact ⟨aX (by rw [NS.o];unfold ck2;rw [AX.o,if_pos (by rw [rF.o];exact CS.o),rF.o]),IV.o fI.o⟩
      ·have hd:x.brs.drop k=[]:=by rw [List.drop_eq_nil_iff];have:=aJ8.out;omega
       have hr:bM (VI nodes) Br.name seen1 x.brs=(0,seen2):=by rw [jB.o,hd];rfl
       have NZ:=lH hr;have aZq:seen2.length<=seen1.length+m2:=by omega
       clear hd hr GP;have X6:=oI;have yH:Hid (fK x=ck3 x seen2):=lH (by rw [NS.o];unfold ck2;rw [AX.o,NZ.o];rfl)
       go_wp2_with fail
       have hCw:Ck wr wr (w.heap.size+1) A0 m0 nodes ⟨A0,m0,c0,A1,m1,c1,A2,m2,c2,A3,m3,c3,A4,m4,c4,A5,m5,c5⟩ x seen2:=⟨⟨rfl,rfl,rfl,lR,fun _ _ _=>rfl⟩,HC.o.sn,HC.o.rn,HC.o.net⟩;refine (aEW (w.heap.size+1) _ m0 c0 nodes ⟨A0,m0,c0,A1,m1,c1,A2,m2,c2,A3,m3,c3,A4,m4,c4,A5,m5,c5⟩ x seen2 _ hCw hm0 (by omega) hm3 hm4 hm5 AX.o).mono ?_;rintro e w4 ⟨rfl,hg4⟩;have HG4:=lH (fJ HC.o.gr hg4);clear hg4 hCw
       go_wp2_with fail
       go_ret;exact ⟨aX (by rw [yH.o]),IV.o HG4.o⟩
theorem LT (h:cE) (x:bE) (w:Wo) (r:cS w w.heap.size h x) :
    Calls Tryz.prog 58 #[.agg h.cells] w fun e w'=>e=.returned (.int .i64 (fK x))/\Below w.heap.size w w':=by
 by_cases hl:lM x
 ·exact RN h x w r hl
 ·exact RM h x w r hl
end
section
open Go
theorem MD {P:Program} {md:Region.Mode} {Q:Exit->Act->World->Prop} {L:List Oper} {S:World->Prop} (i j:Nat) {o o':Oper} {fuel:Nat} {listed:Array Bool} {a:Act} {w:Wo} (hr:Region.ready md L.toArray listed=[i,j]) (ho:L[i]?=some o) (SO:L[j]?=some o')
    (h:∀ K':Act->World->Prop,Shut (∀ a w,S w->(S w->wpAnyH P md L.toArray Q S fuel (listed.setIfInBounds i true) a w)->K' a w)->if Region.wanted o (yielded L.toArray a.tmps)=true then Oper.wp P o a w K' Q else K' (a.put o.dst undef) w)
    (h':∀ K':Act->World->Prop,Shut (∀ a w,S w->(S w->wpAnyH P md L.toArray Q S fuel (listed.setIfInBounds j true) a w)->K' a w)->if Region.wanted o' (yielded L.toArray a.tmps)=true then Oper.wp P o' a w K' Q else K' (a.put o'.dst undef) w):wpAnyH P md L.toArray Q S (fuel+1) listed a w:=
 wpAnyH_ready hr (by simp) (AllReadyH.cons (by rw [List.getElem?_toArray];exact ho) h (AllReadyH.cons (by rw [List.getElem?_toArray];exact SO) h' AllReadyH.nil))
end
section
theorem FJ (c:Rat) (f:Fn) (n:Nat):aO n f*c=aO n (fun i=>f i*c):=by
 rw [Rat.mul_comm,<-bY];exact aN fun i _=>Rat.mul_comm _ _
theorem ZM (f g:Fn) (n:Nat):aO n (fun i=>f i-g i)=aO n f-aO n g:=by
 have h:=fX f (fun i=>(-1)*g i) n;rw [bY] at h;have e:aO n (fun i=>f i-g i)=aO n (fun i=>f i+(-1)*g i):=aN fun i _=>by grind
 rw [e,h];grind
theorem aOO (x:Rat):0<=x*x:=by
 rcases Rat.le_total (a:=0) (b:=x) with h | h
 ·exact Rat.mul_nonneg h h
 ·have h2:0<=-x:=by grind
  have:=Rat.mul_nonneg h2 h2;grind
theorem yX:∀ {n:Nat} {f:Fn},(∀ i,i<n->0<=f i)->0<=aO n f
 | 0,_,_=>by simp [aO]
 | n+1,f,h=>by
  have h1:=yX (n:=n) (f:=f) fun i hi=>h i (by omega);have h2:=h n (by omega);simp only [aO];grind
theorem qT:∀ {n:Nat} {f:Fn},(∀ i,i<n->0<=f i)->aO n f=0->∀ i,i<n->f i=0
 | 0,_,_,_,i,hi=>by omega
 | n+1,f,h,he,i,hi=>by
  have h1:=yX (n:=n) (f:=f) fun i hi=>h i (by omega);have h2:=h n (by omega);simp only [aO] at he
  by_cases lG:i=n
  ·subst lG;grind
  ·exact qT (n:=n) (fun i hi=>h i (by omega)) (by grind) i (by omega)
structure Ls where
 n:Nat
 K:Nat
 R:Nat->Fn
 w:Fn
 y:Fn
namespace Ls
variable (L:Ls)
def Pos:Prop:=∀ k,k<L.K->0<L.w k
def G (i:Nat):Fn:=fun j=>aO L.K fun k=>L.w k*L.R k i*L.R k j
def rt:Fn:=fun i=>aO L.K fun k=>L.w k*L.y k*L.R k i
def res (a:Fn):Fn:=fun k=>L.y k-bB L.n (L.R k) a
def cost (a:Fn):Rat:=aO L.K fun k=>L.w k*L.res a k*L.res a k
def Sol (a:Fn):Prop:=∀ i,i<L.n->bB L.n (L.G i) a=L.rt i
theorem gdot (c:Fn) (i:Nat):bB L.n (L.G i) c=aO L.K fun k=>L.w k*L.R k i*bB L.n (L.R k) c:=by
 unfold bB G;have e:aO L.n (fun j=>aO L.K (fun k=>L.w k*L.R k i*L.R k j)*c j)=aO L.n (fun j=>aO L.K (fun k=>L.w k*L.R k i*(L.R k j*c j))):=aN fun j _=>by
  rw [FJ];exact aN fun k _=>by grind
 rw [e,pC];exact aN fun k _=>bY _ _ _
theorem wdot (f c:Fn):aO L.n (fun i=>c i*aO L.K fun k=>f k*L.R k i)=aO L.K fun k=>f k*bB L.n (L.R k) c:=by
 have e:aO L.n (fun i=>c i*aO L.K fun k=>f k*L.R k i)=aO L.n (fun i=>aO L.K fun k=>f k*(L.R k i*c i)):=aN fun i _=>by
  rw [<-bY];exact aN fun k _=>by grind
 rw [e,pC];exact aN fun k _=>bY _ _ _
theorem bil (c d:Fn):aO L.n (fun i=>c i*bB L.n (L.G i) d)=aO L.K fun k=>L.w k*bB L.n (L.R k) d*bB L.n (L.R k) c:=by
 have e:aO L.n (fun i=>c i*bB L.n (L.G i) d)=aO L.n (fun i=>c i*aO L.K fun k=>(L.w k*bB L.n (L.R k) d)*L.R k i):=aN fun i _=>by
  rw [L.gdot];congr 1
  exact aN fun k _=>by grind
 rw [e,L.wdot]
theorem quad (c:Fn):aO L.n (fun i=>c i*bB L.n (L.G i) c)=aO L.K fun k=>L.w k*(bB L.n (L.R k) c*bB L.n (L.R k) c):=by
 rw [L.bil];exact aN fun k _=>by grind
variable {L}
theorem Pos.nn (h:L.Pos) (f:Fn):∀ k,k<L.K->0<=L.w k*(f k*f k):=fun k hk=>Rat.mul_nonneg (Rat.le_of_lt (h k hk)) (aOO _)
theorem Pos.zero (h:L.Pos) {f:Fn} (h0:aO L.K (fun k=>L.w k*(f k*f k))=0):∀ k,k<L.K->f k=0:=fun k hk=>by
 have h1:=qT (h.nn f) h0 k hk;have h2:=h k hk;rcases Rat.mul_eq_zero.1 h1 with h3 | h3
 ·rw [h3] at h2;exact absurd h2 Rat.lt_irrefl
 ·rcases Rat.mul_eq_zero.1 h3 with h4 | h4<;>exact h4
theorem Pos.ker (h:L.Pos) (c:Fn):(∀ i,i<L.n->bB L.n (L.G i) c=0)<->∀ k,k<L.K->bB L.n (L.R k) c=0:=by
 constructor
 ·intro hc
  refine h.zero (f:=fun k=>bB L.n (L.R k) c) ?_;rw [<-L.quad];exact eV fun i hi=>by rw [hc i hi,Rat.mul_zero]
 ·intro hc i hi
  rw [L.gdot];exact eV fun k hk=>by rw [hc k hk,Rat.mul_zero]
theorem Sol.normal {a:Fn} (h:L.Sol a):∀ i,i<L.n->aO L.K (fun k=>L.w k*L.res a k*L.R k i)=0:=fun i hi=>by
 have h1:=h i hi;rw [L.gdot] at h1;unfold rt at h1;have e:aO L.K (fun k=>L.w k*L.res a k*L.R k i)=aO L.K (fun k=>L.w k*L.y k*L.R k i)-aO L.K (fun k=>L.w k*L.R k i*bB L.n (L.R k) a):=by
  rw [<-ZM];exact aN fun k _=>by unfold res;grind
 rw [e,h1];grind
theorem Sol.orth {a:Fn} (h:L.Sol a) (c:Fn):aO L.K (fun k=>L.w k*L.res a k*bB L.n (L.R k) c)=0:=by
 rw [<-L.wdot];exact eV fun i hi=>by rw [h.normal i hi,Rat.mul_zero]
theorem Sol.least {a:Fn} (h:L.Sol a) (o:Fn):L.cost o=L.cost a+aO L.K fun k=>L.w k*(bB L.n (L.R k) (fun i=>o i+(-1)*a i)*bB L.n (L.R k) (fun i=>o i+(-1)*a i)):=by
 have h1:=h.orth (fun i=>o i+(-1)*a i);have e:L.cost o=L.cost a+aO L.K (fun k=>L.w k*(bB L.n (L.R k) (fun i=>o i+(-1)*a i)*bB L.n (L.R k) (fun i=>o i+(-1)*a i)))+(-2)*aO L.K (fun k=>L.w k*L.res a k*bB L.n (L.R k) (fun i=>o i+(-1)*a i)):=by
  unfold cost;rw [<-bY,<-fX,<-fX];refine aN fun k _=>?_;rw [aEY,aEX];unfold res;grind
 rw [e,h1];grind
def SolK (L:Ls) (k:Nat) (u:Fn):Prop:=∀ i,i<L.n->bB L.n (L.G i) u=L.R k i
def spr (L:Ls) (k:Nat) (u:Fn):Rat:=1 / L.w k-bB L.n (L.R k) u
theorem SolK.dot {k:Nat} {u:Fn} (h:L.SolK k u) (c:Fn):bB L.n (L.R k) c=aO L.K fun j=>L.w j*bB L.n (L.R j) u*bB L.n (L.R j) c:=by
 rw [<-L.bil];unfold bB;exact aN fun i hi=>by
  have:=h i hi;unfold bB at this;rw [<-this];grind
theorem SolK.rest {k:Nat} {u:Fn} (h:L.SolK k u) (hk:k<L.K):bB L.n (L.R k) u=L.w k*(bB L.n (L.R k) u*bB L.n (L.R k) u)+aO L.K (fun j=>if j=k then 0 else L.w j*(bB L.n (L.R j) u*bB L.n (L.R j) u)):=by
 have h1:=h.dot u;have e:aO L.K (fun j=>L.w j*bB L.n (L.R j) u*bB L.n (L.R j) u)=aO L.K (fun j=>if j=k then L.w j*(bB L.n (L.R j) u*bB L.n (L.R j) u) else 0)+aO L.K (fun j=>if j=k then 0 else L.w j*(bB L.n (L.R j) u*bB L.n (L.R j) u)):=by
  rw [<-fX];exact aN fun j _=>by
   by_cases ej:j=k
   ·rw [if_pos ej,if_pos ej];grind
   ·rw [if_neg ej,if_neg ej];grind
 have e2:aO L.K (fun j=>if j=k then L.w j*(bB L.n (L.R j) u*bB L.n (L.R j) u) else 0)=L.w k*(bB L.n (L.R k) u*bB L.n (L.R k) u):=by
  rw [iN hk (fun j _ cP=>by rw [if_neg cP]),if_pos rfl]
 rw [e,e2] at h1;exact h1
theorem aDN {k:Nat} (hp:L.Pos) (hk:k<L.K):L.w k*(1 / L.w k)=1:=by
 have h:=hp k hk;have cP:L.w k≠0:=fun e=>by rw [e] at h;exact absurd h Rat.lt_irrefl
 rw [Rat.div_def,Rat.one_mul,Rat.mul_inv_cancel _ cP]
theorem SolK.spr_of {k:Nat} {u c:Fn} (hp:L.Pos) (hk:k<L.K) (h:L.SolK k u) (hc:∀ j,j<L.K->j≠k->bB L.n (L.R j) c=0) (kF:bB L.n (L.R k) c≠0):L.spr k u=0:=by
 have h1:=h.dot c;have h2:aO L.K (fun j=>L.w j*bB L.n (L.R j) u*bB L.n (L.R j) c)=L.w k*bB L.n (L.R k) u*bB L.n (L.R k) c:=
  iN hk fun j hj cP=>by rw [hc j hj cP,Rat.mul_zero]
 rw [h2] at h1;have h4:=aDN hp hk;have h3:L.w k*bB L.n (L.R k) u=1:=by
  have h5:(1-L.w k*bB L.n (L.R k) u)*bB L.n (L.R k) c=0:=by grind
  rcases Rat.mul_eq_zero.1 h5 with h6 | h6
  ·grind
  ·exact absurd h6 kF
 unfold spr;have h5:=hp k hk;have cP:L.w k≠0:=fun e=>by rw [e] at h5;exact absurd h5 Rat.lt_irrefl
 have h6:L.w k*(1 / L.w k-bB L.n (L.R k) u)=0:=by grind
 rcases Rat.mul_eq_zero.1 h6 with h7 | h7
 ·exact absurd h7 cP
 ·exact h7
end Ls
end

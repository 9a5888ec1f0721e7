import Derived.Test.YthgdchffeigkbaaGreatDoorV01
import Derived.Test.YthgdchffeigkbaaGreatDoorV02
import Derived.Deep.OwnRows
import Derived.Laws.Bits64b
set_option linter.unusedVariables false
set_option linter.unusedSimpArgs false
namespace Go.Proofs.YthgdchffeigkbaaGreatDoor
variable {A : OA} {e : Ending} {g i n t : Nat} {l : List Nat} {v0 v1 : Value} {w w' : World}
section
open Go.ChangeShapes Go.WideShapes Go.ChangeAt Go.RowKit
theorem IV(n:Int):IntKind.u64.wrap n=n % 18446744073709551616:=by
 simp[IntKind.wrap,IntKind.bits,IntKind.signed]
theorem aDX(n:Int):IntKind.u32.wrap n=n % 4294967296:=by
 simp[IntKind.wrap,IntKind.bits,IntKind.signed]
def bS(l:List Nat):List Value:=l.map fun(x:Nat)=>Value.int .u32 (x:Int)
def jU(w:Wo)(B:Nat)(A:OA)(n:Nat)(l:List Nat):Prop:=Rd w B 1 A n (bS l)
section
variable {w w':Wo} {B B' n:Nat} {A:OA} {l:List Nat}
theorem jU.len(h:jU w B A n l):l.length=n:=by have:=h.1;simp[bS] at this;omega
theorem jU.below(h:jU w B A n l)(hb:Below B' w w')(hB:B<=B'):jU w' B A n l:=Rd.below h hb hB
theorem jU.more(h:jU w B A n l)(hB:B<=B'):jU w B' A n l:=Rd.more h hB
theorem jU.up(h:jU w w.heap.size A n l)(hb:Below w.heap.size w w'):jU w' w'.heap.size A n l:=(h.below hb lR).more hb.size
theorem jU.lift(h:jU w g A n l)(hb:Below g w w')(hg:g<=w'.heap.size):jU w' w'.heap.size A n l:=(h.below hb lR).more hg
theorem jU.form(h:jU w B A n l)(h0:0<n):∃b off,A=some ⟨b,off,none⟩/\b<B:=by
 obtain⟨b,off,e,aU,_⟩:=h.2 h0;exact⟨b,off,e,aU⟩
theorem jU.at_{b off:Nat}(h:jU w B (some ⟨b,off,none⟩) n l)(hi:i<n):w.cell? ⟨b,off+i,none⟩=some (.int .u32 ((l.getD i 0:Nat):Int)):=by
 have hl:=h.len;obtain⟨b',off',e,_,hc⟩:=h.2 (by omega);injection e with e;injection e with e1 e2;subst e1;subst e2;refine hc i _ ?_;unfold bS;rw[iY,iB (by omega),dN,iB (by omega)];rfl
theorem jU.take{k:Nat}(h:jU w B A n l)(hk:k<=n):jU w B A k (l.take k):=by
 have hl:=h.len;refine⟨by simp[bS];omega,fun h0=>?_⟩;obtain⟨b,off,e,aU,hc⟩:=h.2 (by omega);refine⟨b,off,e,aU,fun j u hu=>hc j u ?_⟩;unfold bS at hu ⊢;rw[List.map_take] at hu;have hj:=(dH.1 hu).1;rw[kR] at hj;rwa[List.getElem?_take_of_lt (by omega)] at hu
theorem BU(w:Wo)(B:Nat)(A:OA):jU w B A 0 []:=⟨rfl,fun h=>by omega⟩
theorem rN{t:TypeId}(h:aG w g t (bS l).toArray):jU w w.heap.size (some ⟨g,0,none⟩) l.length l:=
 ⟨by simp[bS],fun _=>⟨g,0,rfl,h.lt,fun j u hu=>by
  rw[show(⟨g,0+j,none⟩:Addr)=⟨g,j,none⟩ from by simp,h.cell j];simpa using hu⟩⟩
end
theorem aIz{x:Nat}{v:Int}(hv:v=(x:Int)):(bS l).toArray.setIfInBounds i (.int .u32 v)=(bS (l.set i x)).toArray:=by
 subst hv;unfold bS;rw[List.map_set];simp
theorem aDY(n:Nat):madeCells #[Value.int .u32 0] n=(bS (List.replicate n 0)).toArray:=by
 apply Array.ext';rw[toList_madeCells_one];unfold bS;simp
theorem cG(h:aG w g t (bS l).toArray)(hi:i<l.length):w.cell? ⟨g,i,none⟩=some (.int .u32 ((l.getD i 0:Nat):Int)):=by
 rw[h.cell i];unfold bS;rw[List.getElem?_toArray,iY,iB hi,dN,iB hi];rfl
theorem fA{x:Nat}{v:Int}(h:aG w g t (bS l).toArray)(hv:v=(x:Int)):aG (w.setCell ⟨g,i,none⟩ (.int .u32 v)) g t (bS (l.set i x)).toArray:=h.set_at _ (aIz hv)
theorem aO{k:IntKind}{a b:Int}(h:a=b):Value.int k a=Value.int k b:=by rw[h]
theorem JR:(Tryz.prog.info? 216).map (fun i=>(i.zero,i.size,i.bytes))=some (some (.int .u32 0),1,4):=by kernel_rfl
theorem qN(n:Nat)(hn:n<=70368744177664)(w:Wo):(Instr.makeSlice 111 (.int .i64 (n:Int)) (.int .i64 (n:Int))).run Tryz.prog w=.ok (.slice (some ⟨w.heap.size,0,none⟩) n n) (w.alloc (.cells (bS (List.replicate n 0)).toArray 216)):=by
 rw[run_make_row' (P:=Tryz.prog) 111 216 (.int .u32 0) 4 Tryz.underlying111 JR rfl .i64 .i64 n (by omega) (by omega) w,aDY]
theorem B5(r x s:Nat)(hs:s<=32)(hr:r<4294967296)(hx:x<2^s):bits .or .u64 ((r:Int)*((2^s:Nat):Int)) (x:Int)=((r*2^s+x:Nat):Int):=by
 have hp:2^s<=4294967296:=Nat.pow_le_pow_right (by decide) hs;have h1:r*2^s<=4294967295*4294967296:=Nat.mul_le_mul (by omega) hp;rw[<-Int.natCast_mul,u64_or_nat _ _ (by omega) (by omega)];congr 1
 rw[Nat.mul_comm];exact(Nat.two_pow_add_eq_or_of_lt hx r).symm
theorem aEU(c x s:Nat)(hc:c<2^s)(h:c+x*2^s<18446744073709551616):bits .or .u64 (c:Int) (IntKind.u64.wrap ((x:Int)*2^s))=((c+x*2^s:Nat):Int):=by
 have e:(x:Int)*2^s=((x*2^s:Nat):Int):=by rw[Int.natCast_mul,Int.natCast_pow];rfl
 rw[e,IV];rw[show((x*2^s:Nat):Int) % 18446744073709551616=((x*2^s:Nat):Int) from by omega];rw[u64_or_nat _ _ (by omega) (by omega)];congr 1
 rw[Nat.or_comm,Nat.mul_comm x,<-Nat.two_pow_add_eq_or_of_lt hc,Nat.add_comm]
theorem aG9(a:Nat)(h:a<18446744073709551616):bits .and .u64 (a:Int) 4294967295=((a % 4294967296:Nat):Int):=by
 have:=u64_and_nat a 4294967295 h (by decide);rw[show((4294967295:Nat):Int)=4294967295 from rfl] at this;rw[this];congr 1
 exact Nat.and_two_pow_sub_one_eq_mod a 32
theorem aDW(h1:1<=g)(h2:g<4294967296):IntKind.u64.wrap ((g:Int)-1)=(g:Int)-1:=Go.IntWalk.u64_in _ (by omega)
theorem aCK(a b:Nat):((a:Int)+(b:Int)) % 4294967296=(((a+b) % 4294967296:Nat):Int):=by omega
theorem RC(a b:Nat):((a:Int)).tmod (b:Int)=((a % b:Nat):Int):=rfl
theorem RD(a b:Nat):((a:Int)).tdiv (b:Int)=((a / b:Nat):Int):=rfl
theorem aG6{W w1:Wo}(hb:Below W.heap.size W w1):(∀b o,b<W.heap.size->w1.cell? ⟨b,o,none⟩=W.cell? ⟨b,o,none⟩)/\(∀b o,b<W.heap.size->w1.frozen? ⟨b,o,none⟩=W.frozen? ⟨b,o,none⟩):=
 ⟨fun b o h=>hb.cell (p:=⟨b,o,none⟩) h,fun b o h=>hb.frozen (p:=⟨b,o,none⟩) h⟩
def aHh(v:Nat)(w:Wo)(e:Ending)(w':Wo):Prop:=Below w.heap.size w w'/\∃A n c l,e=.returned (.slice A n c)/\jU w' w'.heap.size A n l/\Wd l/\wv l=v/\n<=c/\c<=9223372036854775807
theorem MP{v:Nat}(hb:Below w.heap.size w w')(h:aG w' g t (bS l).toArray)(hl:l.length=n)(hd:Wd l)(hv:wv l=v)(hn:n<=9223372036854775807)(he:e=.returned (.slice (some ⟨g,0,none⟩) n n)):aHh v w e w':=
 ⟨hb,_,n,n,l,he,by subst hl;exact rN h,hd,hv,lR,hn⟩
def DY(m:Bool)(v:Nat):Int:=if m then -(v:Int) else v
theorem GZ(m:Bool)(v:Nat):(DY m v).natAbs=v:=by unfold DY;split<;>simp
theorem ZP(m:Bool)(v:Nat):decide (DY m v<0)=(m && decide (0<v)):=by
 unfold DY;cases m with
 | true=>simp
 | false=>simp
theorem aEi(z:Int):DY (decide (z<0)) z.natAbs=z:=by
 unfold DY;by_cases h:z<0
 ·rw[if_pos (by simpa using h)];omega
 ·rw[if_neg (by simpa using h)];omega
theorem cD{p:Nat}{x0 x1:Value}(h:aG w p t #[x0,x1]):aG ((w.setCell ⟨p,0,none⟩ v0).setCell ⟨p,1,none⟩ v1) p t #[v0,v1]:=
 (h.set_at (i:=0) (cs':=#[v0,x1]) v0 (by simp)).set_at (i:=1) v1 (by simp)
theorem cY{a:Wo}{B p:Nat}(h:Below B a w)(hp:B<=p):Below B a ((w.setCell ⟨p,0,none⟩ v0).setCell ⟨p,1,none⟩ v1):=(h.setCell hp _).setCell hp _
structure cE (w:Wo) (B:Nat) (z:Int) (b:Bool) (A:OA) (n c:Nat):Prop where
 eb:b=decide (z<0)
 en:n=dL z.natAbs
 rd:jU w B A n (kU z.natAbs)
 nc:n<=c
 cm:c<=9223372036854775807
section
variable {w w':Wo} {B B':Nat} {z:Int} {b:Bool} {A:OA} {n c:Nat}
theorem cE.below(h:cE w B z b A n c)(hb:Below B' w w')(hB:B<=B'):cE w' B z b A n c:=⟨h.eb,h.en,h.rd.below hb hB,h.nc,h.cm⟩
theorem cE.more(h:cE w B z b A n c)(hB:B<=B'):cE w B' z b A n c:=⟨h.eb,h.en,h.rd.more hB,h.nc,h.cm⟩
theorem cE.up(h:cE w w.heap.size z b A n c)(hb:Below w.heap.size w w'):cE w' w'.heap.size z b A n c:=(h.below hb lR).more hb.size
theorem cE.val(h:cE w B z b A n c):DY b (wv (kU z.natAbs))=z:=by rw[eC,h.eb,aEi]
theorem N_{j:Nat}{u:Value}(h:(bS l)[j]?=some u):∃x,u=.int .u32 x:=by
 unfold bS at h;rw[iY] at h;obtain⟨x,_,he⟩:=Option.map_eq_some_iff.1 h;exact⟨_,he.symm⟩
theorem aEz(h:jU w B A n l){p:Addr}{v:Value}(hp:w.cell? p=some v)(hv:∀k x,v≠.int k x)(u:Value):jU (w.setCell p u) B A n l:=
 ⟨h.1,fun hn=>by
  obtain⟨b,off,e,aU,hc⟩:=h.2 hn;refine⟨b,off,e,aU,fun j y hy=>?_⟩;have XS:=hc j y hy;have bX:(⟨b,off+j,none⟩:Addr)≠p:=by
   intro he;rw[he,hp] at XS;obtain⟨x,rfl⟩:=N_ hy;injection XS with XS;exact hv _ _ XS
  rw[World.cell?_setCell_other _ _ _ _ (Ne.symm bX)];exact XS⟩
theorem cE.keep(h:cE w w.heap.size z b A n c){p:Addr}{v:Value}(hp:w.cell? p=some v)(hv:∀k x,v≠.int k x)(u:Value):cE (w.setCell p u) (w.setCell p u).heap.size z b A n c:=by
 have hs:(w.setCell p u).heap.size=w.heap.size:=by simp
 rw[hs];exact⟨h.eb,h.en,aEz h.rd hp hv u,h.nc,h.cm⟩
end
def LgP(z:Int)(w:Wo)(e:Ending)(w':Wo):Prop:=Below w.heap.size w w'/\∃b A n c,e=.returned (.agg #[.bool b,.slice A n c])/\cE w' w'.heap.size z b A n c
theorem aNB{m:Bool}{k c v:Nat}(hb:Below w.heap.size w w')(hl:l=kU v)(hk:l.length=k)(hr:jU w' w'.heap.size A k l)(hkc:k<=c)(LQ:c<=9223372036854775807)(he:e=.returned (.agg #[.bool (m && decide (0<k)),.slice A k c])):LgP (DY m v) w e w':=by
 have rV:k=dL v:=by rw[<-hk,hl];rfl
 have h0:decide (0<k)=decide (0<v):=by
  by_cases hv:v=0
  ·subst hv;rw[rV,iR]
  ·rw[rV,kP hv];simp;omega
 refine⟨hb,_,A,k,c,he,?_,?_,?_,hkc,LQ⟩
 ·rw[ZP,h0]
 ·rw[GZ];exact rV
 ·rw[GZ,<-hl];exact hr
theorem pG{w2:Wo}{T:Nat}{z:Int}{b:Bool}{c:Nat}(hb:Below w.heap.size w w2)(hg:w.heap.size<=g)(hB:aG w2 g T #[v0,v1])(h0:∀k x,v0≠.int k x)(h1:∀k x,v1≠.int k x)(h:cE w2 w2.heap.size z b A n c)(he:e=.returned (.agg #[.bool b,.slice A n c])):LgP z w e ((w2.setCell ⟨g,0,none⟩ (.bool b)).setCell ⟨g,1,none⟩ (.slice A n c)):=
 ⟨cY hb hg,b,A,n,c,he,(h.keep (hB.cell 0) h0 _).keep ((hB.set_ 0 (.bool b)).cell 1) (by simpa using h1) _⟩
theorem jU.bm(h:jU w w.heap.size A n l)(g:Below w.heap.size w w'):jU w' w'.heap.size A n l:=(h.below g lR).more g.size
end

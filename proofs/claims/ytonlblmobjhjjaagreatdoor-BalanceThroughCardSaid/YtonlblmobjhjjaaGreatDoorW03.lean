import Derived.Test.YtonlblmobjhjjaaGreatDoorW01
import Derived.Test.YtonlblmobjhjjaaGreatDoorW02
import Derived.Deep.OwnRows
import Derived.Laws.Bits64b
import Derived.Deep.DeepCutAuto
import Derived.Lib.BitFns
import Derived.Deep.CutBlock
set_option linter.unusedVariables false
set_option linter.unusedSimpArgs false
namespace Go.Proofs.YtonlblmobjhjjaaGreatDoor
set_option maxHeartbeats 8000000
set_option maxRecDepth 100000
variable {A : OA} {L : List Oper} {W w w' : World} {a l out : List Nat} {c cc d fuel g i k m n p t x y : Nat} {e : Ending} {v v0 v1 v2 v3 : Value} {z : Int}
section
open Go.ChangeShapes Go.WideShapes Go.ChangeAt Go.RowKit
theorem z8(n:Int):IntKind.u64.wrap n=n % 18446744073709551616:=by
 simp[IntKind.wrap,IntKind.bits,IntKind.signed]
theorem UH(n:Int):IntKind.u32.wrap n=n % 4294967296:=by
 simp[IntKind.wrap,IntKind.bits,IntKind.signed]
def aY(l:List Nat):List Value:=l.map fun(x:Nat)=>Value.int .u32 (x:Int)
def gF(w:Wo)(B:Nat)(A:OA)(n:Nat)(l:List Nat):Prop:=Rd w B 1 A n (aY l)
section
variable {w w':Wo} {B B' n:Nat} {A:OA} {l:List Nat}
theorem gF.len(h:gF w B A n l):l.length=n:=by have:=h.1;simp[aY] at this;omega
theorem gF.below(h:gF w B A n l)(hb:Below B' w w')(hB:B<=B'):gF w' B A n l:=Rd.below h hb hB
theorem gF.more(h:gF w B A n l)(hB:B<=B'):gF w B' A n l:=Rd.more h hB
theorem gF.up(h:gF w w.heap.size A n l)(hb:Below w.heap.size w w'):gF w' w'.heap.size A n l:=(h.below hb lR).more hb.size
theorem gF.lift(h:gF w g A n l)(hb:Below g w w')(hg:g<=w'.heap.size):gF w' w'.heap.size A n l:=(h.below hb lR).more hg
theorem gF.form(h:gF w B A n l)(h0:0<n):∃b off,A=some ⟨b,off,none⟩/\b<B:=by
 obtain⟨b,off,e,aR,_⟩:=h.2 h0;exact⟨b,off,e,aR⟩
theorem gF.at_{b off:Nat}(h:gF w B (some ⟨b,off,none⟩) n l)(hi:i<n):w.cell? ⟨b,off+i,none⟩=some (.int .u32 ((l.getD i 0:Nat):Int)):=by
 have hl:=h.len;obtain⟨b',off',e,_,hc⟩:=h.2 (by omega);injection e with e;injection e with e1 e2;subst e1;subst e2;refine hc i _ ?_;unfold aY;rw[pL,jP (by omega),dQ,jP (by omega)];rfl
theorem gF.take(h:gF w B A n l)(hk:k<=n):gF w B A k (l.take k):=by
 have hl:=h.len;refine⟨by simp[aY];omega,fun h0=>?_⟩;obtain⟨b,off,e,aR,hc⟩:=h.2 (by omega);refine⟨b,off,e,aR,fun j u hu=>hc j u ?_⟩;unfold aY at hu ⊢;rw[List.map_take] at hu;have hj:=(c_.1 hu).1;rw[kC] at hj;rwa[List.getElem?_take_of_lt (by omega)] at hu
theorem t7(w:Wo)(B:Nat)(A:OA):gF w B A 0 []:=⟨rfl,fun h=>by omega⟩
theorem mU{t:TypeId}(h:aD w g t (aY l).toArray):gF w w.heap.size (some ⟨g,0,none⟩) l.length l:=
 ⟨by simp[aY],fun _=>⟨g,0,rfl,h.lt,fun j u hu=>by
  rw[show(⟨g,0+j,none⟩:Addr)=⟨g,j,none⟩ from by simp,h.cell j];simpa using hu⟩⟩
end
theorem aAX{v:Int}(hv:v=(x:Int)):(aY l).toArray.setIfInBounds i (.int .u32 v)=(aY (l.set i x)).toArray:=by
 subst hv;unfold aY;rw[List.map_set];simp
theorem UI(n:Nat):madeCells #[Value.int .u32 0] n=(aY (List.replicate n 0)).toArray:=by
 apply Array.ext';rw[toList_madeCells_one];unfold aY;simp
theorem bF(h:aD w g t (aY l).toArray)(hi:i<l.length):w.cell? ⟨g,i,none⟩=some (.int .u32 ((l.getD i 0:Nat):Int)):=by
 rw[h.cell i];unfold aY;rw[List.getElem?_toArray,pL,jP hi,dQ,jP hi];rfl
theorem dP{v:Int}(h:aD w g t (aY l).toArray)(hv:v=(x:Int)):aD (w.setCell ⟨g,i,none⟩ (.int .u32 v)) g t (aY (l.set i x)).toArray:=h.set_at _ (aAX hv)
theorem aM{k:IntKind}{a b:Int}(h:a=b):Value.int k a=Value.int k b:=by rw[h]
theorem AZ:(Tryz.prog.info? 175).map (fun i=>(i.zero,i.size,i.bytes))=some (some (.int .u32 0),1,4):=by kernel_rfl
theorem mA(n:Nat)(hn:n<=70368744177664)(w:Wo):(Instr.makeSlice 83 (.int .i64 (n:Int)) (.int .i64 (n:Int))).run Tryz.prog w=.ok (.slice (some ⟨w.heap.size,0,none⟩) n n) (w.alloc (.cells (aY (List.replicate n 0)).toArray 175)):=by
 rw[run_make_row' (P:=Tryz.prog) 83 175 (.int .u32 0) 4 Tryz.underlying83 AZ rfl .i64 .i64 n (by omega) (by omega) w,UI]
theorem uE(r x s:Nat)(hs:s<=32)(hr:r<4294967296)(hx:x<2^s):bits .or .u64 ((r:Int)*((2^s:Nat):Int)) (x:Int)=((r*2^s+x:Nat):Int):=by
 have hp:2^s<=4294967296:=Nat.pow_le_pow_right (by decide) hs;have h1:r*2^s<=4294967295*4294967296:=Nat.mul_le_mul (by omega) hp;rw[<-Int.natCast_mul,u64_or_nat _ _ (by omega) (by omega)];congr 1
 rw[Nat.mul_comm];exact(Nat.two_pow_add_eq_or_of_lt hx r).symm
theorem VT(c x s:Nat)(hc:c<2^s)(h:c+x*2^s<18446744073709551616):bits .or .u64 (c:Int) (IntKind.u64.wrap ((x:Int)*2^s))=((c+x*2^s:Nat):Int):=by
 have e:(x:Int)*2^s=((x*2^s:Nat):Int):=by rw[Int.natCast_mul,Int.natCast_pow];rfl
 rw[e,z8];rw[show((x*2^s:Nat):Int) % 18446744073709551616=((x*2^s:Nat):Int) from by omega];rw[u64_or_nat _ _ (by omega) (by omega)];congr 1
 rw[Nat.or_comm,Nat.mul_comm x,<-Nat.two_pow_add_eq_or_of_lt hc,Nat.add_comm]
theorem ZQ(a:Nat)(h:a<18446744073709551616):bits .and .u64 (a:Int) 4294967295=((a % 4294967296:Nat):Int):=by
 have:=u64_and_nat a 4294967295 h (by decide);rw[show((4294967295:Nat):Int)=4294967295 from rfl] at this;rw[this];congr 1
 exact Nat.and_two_pow_sub_one_eq_mod a 32
theorem UG(h1:1<=g)(h2:g<4294967296):IntKind.u64.wrap ((g:Int)-1)=(g:Int)-1:=Go.IntWalk.u64_in _ (by omega)
theorem SO(a b:Nat):((a:Int)+(b:Int)) % 4294967296=(((a+b) % 4294967296:Nat):Int):=by omega
theorem G7(a b:Nat):((a:Int)).tmod (b:Int)=((a % b:Nat):Int):=rfl
theorem G9(a b:Nat):((a:Int)).tdiv (b:Int)=((a / b:Nat):Int):=rfl
theorem ZN{w1:Wo}(hb:Below W.heap.size W w1):(∀b o,b<W.heap.size->w1.cell? ⟨b,o,none⟩=W.cell? ⟨b,o,none⟩)/\(∀b o,b<W.heap.size->w1.frozen? ⟨b,o,none⟩=W.frozen? ⟨b,o,none⟩):=
 ⟨fun b o h=>hb.cell (p:=⟨b,o,none⟩) h,fun b o h=>hb.frozen (p:=⟨b,o,none⟩) h⟩
def ZW(v:Nat)(w:Wo)(e:Ending)(w':Wo):Prop:=Below w.heap.size w w'/\∃A n c l,e=.returned (.slice A n c)/\gF w' w'.heap.size A n l/\Wd l/\wv l=v/\n<=c/\c<=9223372036854775807
theorem DZ{v:Nat}(hb:Below w.heap.size w w')(h:aD w' g t (aY l).toArray)(hl:l.length=n)(hd:Wd l)(hv:wv l=v)(hn:n<=9223372036854775807)(he:e=.returned (.slice (some ⟨g,0,none⟩) n n)):ZW v w e w':=
 ⟨hb,_,n,n,l,he,by subst hl;exact mU h,hd,hv,lR,hn⟩
def wC(m:Bool)(v:Nat):Int:=if m then -(v:Int) else v
theorem y_(m:Bool)(v:Nat):(wC m v).natAbs=v:=by unfold wC;split<;>simp
theorem OH(m:Bool)(v:Nat):decide (wC m v<0)=(m && decide (0<v)):=by
 unfold wC;cases m with
 | true=>simp
 | false=>simp
theorem U2(z:Int):wC (decide (z<0)) z.natAbs=z:=by
 unfold wC;by_cases h:z<0
 ·rw[if_pos (by simpa using h)];omega
 ·rw[if_neg (by simpa using h)];omega
theorem bD{x0 x1:Value}(h:aD w p t #[x0,x1]):aD ((w.setCell ⟨p,0,none⟩ v0).setCell ⟨p,1,none⟩ v1) p t #[v0,v1]:=
 (h.set_at (i:=0) (cs':=#[v0,x1]) v0 (by simp)).set_at (i:=1) v1 (by simp)
theorem bQ{a:Wo}{B:Nat}(h:Below B a w)(hp:B<=p):Below B a ((w.setCell ⟨p,0,none⟩ v0).setCell ⟨p,1,none⟩ v1):=(h.setCell hp _).setCell hp _
structure bE (w:Wo) (B:Nat) (z:Int) (b:Bool) (A:OA) (n c:Nat):Prop where
 eb:b=decide (z<0)
 en:n=cE z.natAbs
 rd:gF w B A n (gX z.natAbs)
 nc:n<=c
 cm:c<=9223372036854775807
section
variable {w w':Wo} {B B':Nat} {z:Int} {b:Bool} {A:OA} {n c:Nat}
theorem bE.below(h:bE w B z b A n c)(hb:Below B' w w')(hB:B<=B'):bE w' B z b A n c:=⟨h.eb,h.en,h.rd.below hb hB,h.nc,h.cm⟩
theorem bE.more(h:bE w B z b A n c)(hB:B<=B'):bE w B' z b A n c:=⟨h.eb,h.en,h.rd.more hB,h.nc,h.cm⟩
theorem bE.up(h:bE w w.heap.size z b A n c)(hb:Below w.heap.size w w'):bE w' w'.heap.size z b A n c:=(h.below hb lR).more hb.size
theorem bE.val(h:bE w B z b A n c):wC b (wv (gX z.natAbs))=z:=by rw[cU,h.eb,U2]
theorem E_{j:Nat}{u:Value}(h:(aY l)[j]?=some u):∃x,u=.int .u32 x:=by
 unfold aY at h;rw[pL] at h;obtain⟨x,_,he⟩:=Option.map_eq_some_iff.1 h;exact⟨_,he.symm⟩
theorem VE(h:gF w B A n l){p:Addr}(hp:w.cell? p=some v)(hv:∀k x,v≠.int k x)(u:Value):gF (w.setCell p u) B A n l:=
 ⟨h.1,fun hn=>by
  obtain⟨b,off,e,aR,hc⟩:=h.2 hn;refine⟨b,off,e,aR,fun j y hy=>?_⟩;have M7:=hc j y hy;have cK:(⟨b,off+j,none⟩:Addr)≠p:=by
   intro he;rw[he,hp] at M7;obtain⟨x,rfl⟩:=E_ hy;injection M7 with M7;exact hv _ _ M7
  rw[World.cell?_setCell_other _ _ _ _ (Ne.symm cK)];exact M7⟩
theorem bE.keep(h:bE w w.heap.size z b A n c){p:Addr}(hp:w.cell? p=some v)(hv:∀k x,v≠.int k x)(u:Value):bE (w.setCell p u) (w.setCell p u).heap.size z b A n c:=by
 have hs:(w.setCell p u).heap.size=w.heap.size:=by simp
 rw[hs];exact⟨h.eb,h.en,VE h.rd hp hv u,h.nc,h.cm⟩
end
def SV(z:Int)(w:Wo)(e:Ending)(w':Wo):Prop:=Below w.heap.size w w'/\∃b A n c,e=.returned (.agg #[.bool b,.slice A n c])/\bE w' w'.heap.size z b A n c
theorem aD_{m:Bool}{v:Nat}(hb:Below w.heap.size w w')(hl:l=gX v)(hk:l.length=k)(hr:gF w' w'.heap.size A k l)(hkc:k<=c)(JI:c<=9223372036854775807)(he:e=.returned (.agg #[.bool (m && decide (0<k)),.slice A k c])):SV (wC m v) w e w':=by
 have yK:k=cE v:=by rw[<-hk,hl];rfl
 have h0:decide (0<k)=decide (0<v):=by
  by_cases hv:v=0
  ·subst hv;rw[yK,fK]
  ·rw[yK,gV hv];simp;omega
 refine⟨hb,_,A,k,c,he,?_,?_,?_,hkc,JI⟩
 ·rw[OH,h0]
 ·rw[y_];exact yK
 ·rw[y_,<-hl];exact hr
theorem kX{w2:Wo}{T:Nat}{b:Bool}(hb:Below w.heap.size w w2)(hg:w.heap.size<=g)(hB:aD w2 g T #[v0,v1])(h0:∀k x,v0≠.int k x)(h1:∀k x,v1≠.int k x)(h:bE w2 w2.heap.size z b A n c)(he:e=.returned (.agg #[.bool b,.slice A n c])):SV z w e ((w2.setCell ⟨g,0,none⟩ (.bool b)).setCell ⟨g,1,none⟩ (.slice A n c)):=
 ⟨bQ hb hg,b,A,n,c,he,(h.keep (hB.cell 0) h0 _).keep ((hB.set_ 0 (.bool b)).cell 1) (by simpa using h1) _⟩
theorem gF.bm(h:gF w w.heap.size A n l)(g:Below w.heap.size w w'):gF w' w'.heap.size A n l:=(h.below g lR).more g.size
end
section
section
open Go Go.RowKit
variable {P:Program} {Q:Exit->Act->World->Prop} {md:Region.Mode}
theorem iG{α:Type _}{l:List α}{a:α}:l.toArray.setIfInBounds i a=(l.set i a).toArray:=List.setIfInBounds_toArray _ _ _
theorem iF{α:Type _}{x:α}{xs:List α}{a:α}:(x::xs).set 0 a=a::xs:=rfl
theorem iE{α:Type _}{x:α}{xs:List α}{a:α}:(x::xs).set (n+1) a=x::xs.set n a:=rfl
theorem tkH(i:Nat){oi:Oper}{listed:Array Bool}{a a':Act}(hi:L[i]?=some oi)(h:wpAnyH P md L.toArray Q (fun w'=>Below W.heap.size W w') fuel (listed.setIfInBounds i true) a' w)(hy:∀w',Below W.heap.size W w'->(∀b o,b<W.heap.size->w'.cell? ⟨b,o,none⟩=W.cell? ⟨b,o,none⟩)->(execOp a.eval oi).run P w'=.ok (.value v) w':=by intro w' _ M_;go_simp<;>with_reducible rfl)(ha:a.put oi.dst v=a':=by (try simp only[Act.put,iG,iF,iE]);rfl)(hS:Below W.heap.size W w:=by assumption)(hB:tS md L.toArray listed i=true:=by kernel_rfl)(hQ:∀c a w,Q (.panic c) (a.put oi.dst v) w->Q (.panic c) a w:=by exact fun _ _ _ h=>h)(hw:Region.wanted oi (yielded L.toArray a.tmps)=true:=by rfl):wpAnyH P md L.toArray Q (fun w'=>Below W.heap.size W w') (fuel+1) listed a w:=
 aCS i hi hB hQ hw (fun w' h=>hy w' h (ZN h).1) hS (by rw[ha];exact h)
inductive NW (P:Program) (md:Region.Mode) (Q:Exit->Act->World->Prop) (L:List Oper) (W:Wo):List Nat->Nat->Array Bool->Act->Nat->Array Bool->Act->Prop
 | nil {f:Nat} {l:Array Bool} {a:Act}:NW P md Q L W [] f l a f l a
 | cons {i f g:Nat} {r:List Nat} {l m:Array Bool} {a b c:Act} {o:Oper} {v:Value} (ho:L[i]?=some o) (hy:∀w',Below W.heap.size W w'->(∀b o,b<W.heap.size->w'.cell? ⟨b,o,none⟩=W.cell? ⟨b,o,none⟩)->(execOp a.eval o).run P w'=.ok (.value v) w') (ha:a.put o.dst v=b) (hB:tS md L.toArray l i=true) (hQ:∀c a w,Q (.panic c) (a.put o.dst v) w->Q (.panic c) a w) (hw:Region.wanted o (yielded L.toArray a.tmps)=true) (t:NW P md Q L W r f (l.setIfInBounds i true) b g m c):NW P md Q L W (i::r) (f+1) l a g m c
theorem NW.go{f:Nat}{l m:Array Bool}{a c:Act}{is:List Nat}(t:NW P md Q L W is f l a g m c)(hS:Below W.heap.size W w)(h:wpAnyH P md L.toArray Q (fun w'=>Below W.heap.size W w') g m c w):wpAnyH P md L.toArray Q (fun w'=>Below W.heap.size W w') f l a w:=by
 induction t with
 | nil=>exact h
 | cons ho hy ha hB hQ hw t ih=>exact tkH _ ho (ih h) hy ha hS hB hQ hw
theorem d7{f:Nat}{l m:Array Bool}{a c:Act}(is:List Nat)(h:wpAnyH P md L.toArray Q (fun w'=>Below W.heap.size W w') g m c w)(t:NW P md Q L W is f l a g m c:=by repeat (first | exact .nil | apply NW.cons rfl (by intro w' _ M_;go_simp<;>with_reducible rfl) (by (try simp only[Act.put,iG,iF,iE]);rfl) (by kernel_rfl) (fun _ _ _ h=>h) (by rfl)))(hS:Below W.heap.size W w:=by assumption):wpAnyH P md L.toArray Q (fun w'=>Below W.heap.size W w') f l a w:=t.go hS h
theorem bI{L:List Oper}{S:World->Prop}(i:Nat){o:Oper}{fuel:Nat}{listed:Array Bool}{a:Act}{w:Wo}(h:∀K':Act->World->Prop,Shut (∀a w,S w->(S w->wpAnyH P md L.toArray Q S fuel (listed.setIfInBounds i true) a w)->K' a w)->if Region.wanted o (yielded L.toArray a.tmps)=true then Oper.wp P o a w K' Q else K' (a.put o.dst undef) w)(hr:Region.ready md L.toArray listed=[i]:=by kernel_rfl)(ho:L[i]?=some o:=by rfl):wpAnyH P md L.toArray Q S (fuel+1) listed a w:=aHh i hr ho h
theorem gK{L:List Oper}{S:World->Prop}(i:Nat){oi:Oper}{v:Value}{fuel:Nat}{listed:Array Bool}{a:Act}{w:Wo}(hy:∀w,S w->(execOp a.eval oi).run P w=.ok (.value v) w)(hS:S w)(h:wpAnyH P md L.toArray Q S fuel (listed.setIfInBounds i true) (a.put oi.dst v) w)(hi:L[i]?=some oi:=by rfl)(hB:tS md L.toArray listed i=true:=by kernel_rfl)(hQ:∀c a w,Q (.panic c) (a.put oi.dst v) w->Q (.panic c) a w:=by exact fun _ _ _ h=>h)(hw:Region.wanted oi (yielded L.toArray a.tmps)=true:=by rfl):wpAnyH P md L.toArray Q S (fuel+1) listed a w:=aCS i hi hB hQ hw hy hS h
theorem fZ{ops op2:Array Oper}{o:Oper}{S:World->Prop}{listed:Array Bool}{a:Act}(h:Oper.wp P o a w (Q .normal) Q)(hr:Region.ready md ops listed=[]:=by kernel_rfl)(hw:Region.wanted o (yielded op2 a.tmps)=true:=by rfl):wpAnyH P md ops (hZ P op2 o Q) S fuel listed a w:=wpAnyH_done hr (cJ hw h) _
theorem iJ{S:World->Prop}{listed:Array Bool}{K:Act->World->Prop}{a a':Act}(hK:Shut (∀a w,S w->(S w->wpAnyH P md L.toArray Q S fuel listed a w)->K a w))(hs:S w)(h:S w->wpAnyH P md L.toArray Q S fuel listed a' w)(ha:a=a':=by (try simp only[Act.put,iG,iF,iE]);rfl):K a w:=hK.out a w hs (by rw[ha];exact h)
theorem rS{id:Nat}{a:Act}{w:Wo}{L:List Oper}(n:Nat){oN:Oper}(h:Below w.heap.size w w.drew->wpAnyH P .any (L.take n).toArray (hZ P L.toArray oN Q) (fun w'=>Below w.heap.size w w') n (Array.replicate n false) a w.drew)(hm:P.follows .mixedOrders=true:=by kernel_rfl)(hs:mX .any L n=true:=by kernel_rfl)(hN:L[n]?=some oN:=by rfl):(Code.region id L.toArray true).wp P Q a w:=
 bC (S:=fun w'=>Below w.heap.size w w') n oN hm hs hN (aH bR) h
end
end
section
open Go.ChangeShapes Go.WideShapes Go.ChangeAt Go.RowKit
attribute [local go_sem ↓] aE
attribute [local go_sem] aJ aI aL
theorem gU(m:Bool)(A:OA)(n c:Nat)(ws:List Nat)(w:Wo)(hr:gF w w.heap.size A n ws)(hd:Wd ws)(hn:n<=c)(hc:c<=9223372036854775807):Calls Tryz.prog 105 #[.bool m,.slice A n c] w (SV (wC m (wv ws)) w):=by
 obtain⟨HR,HD,HL,HK⟩:=gO hr hd hr.len ((Below.refl w.heap.size w).alloc lR (.cells #[.bool false,.slice none 0 0] 85));clear hr hd;go_enter Tryz.func105,Tryz.ntmps105
 go_wp2_with fail
 have HB:=lH (aD.new w 85 #[.bool false,.slice none 0 0]);have nI:=lH (HR.o.up HK.o);generalize w.alloc bU=W at *;generalize hg:w.heap.size=g at *;have HG:=lH hg;clear hg
 go_loop [1] (fun v1=>∃k:Nat,k<=n/\v1=.slice A k c/\wv (ws.take k)=wv ws) (fun v1=>match v1 with | .slice _ k _=>k | _=>0)
 case atStart=>exact⟨n,lR,rfl,by rw[oP (Nat.le_of_eq HL.o)]⟩
 case round=>
  obtain⟨k,hk,rfl,hv⟩:=hrel;have HV:=lH hv;have HE:Hid (∀v' e w',Below g w w'->gF w' w'.heap.size A k (ws.take k)->(k=0\/ws.getD (k-1) 0≠0)->v'=.agg #[.bool (m && decide (0<k)),.slice A k c]->e=.returned v'->SV (wC m (wv ws)) w e w'):=lH (fun v' e w' hb hr hz hv' he=>aD_ (by rw[HG.o];exact hb) (by rw[UK HD.o (by have:=HL.o;omega) hz,HV.o]) (by rw[kC,HL.o,Nat.min_eq_left hk]) hr (eN hk hn) hc (by rw[he,hv']));clear hv;obtain⟨b0,b1,bf,bl⟩:=HB.o.e2;by_cases h0:k=0
  ·subst h0
   cases m with
   | true=>
    (go_wp2_with fail);generalize NC:(W.setCell ⟨g,0,none⟩ _).setCell ⟨g,1,none⟩ _=W2;have dB:Hid (aD W2 g 85 #[.bool (true && decide (0<0)),.slice A 0 c]):=lH (by rw[<-NC];exact bD HB.o);have rN:Hid (Below g w W2):=lH (by rw[<-NC];exact bQ HK.o lR);clear NC b0 b1;obtain⟨q0,q1⟩:=dB.o.a2;refine bodyPost_ret (v:=.agg #[.bool (true && decide (0<0)),.slice A 0 c]) (by simp[results,Tryz.results105,go_sem,q0,q1]) rfl (HE.o _ _ _ rN.o (t7 _ _ _) (.inl trivial) rfl rfl)
   | false=>
    (go_wp2_with fail);generalize NC:(W.setCell ⟨g,0,none⟩ _).setCell ⟨g,1,none⟩ _=W2;have dB:Hid (aD W2 g 85 #[.bool (false && decide (0<0)),.slice A 0 c]):=lH (by rw[<-NC];exact bD HB.o);have rN:Hid (Below g w W2):=lH (by rw[<-NC];exact bQ HK.o lR);clear NC b0 b1;obtain⟨q0,q1⟩:=dB.o.a2;refine bodyPost_ret (v:=.agg #[.bool (false && decide (0<0)),.slice A 0 c]) (by simp[results,Tryz.results105,go_sem,q0,q1]) rfl (HE.o _ _ _ rN.o (t7 _ _ _) (.inl trivial) rfl rfl)
  ·have pX:0<k:=by omega
   obtain⟨b,off,hA,nG⟩:=nI.o.form (by omega);subst hA;have EH:=nI.o.at_ (i:=k-1) (by omega);have rM:=lH (nI.o.take hk);have g1:(1:Int)<=(k:Int):=by omega
   have g4:((k:Int)-1).toNat=k-1:=by omega
   have g5:(k:Int)-1<(k:Int):=by omega
   have g6:(k:Int)-1<=(c:Int):=by omega
   have g7:(k:Int)<=9223372036854775807:=by omega
   obtain⟨x,hx⟩:∃x,ws.getD (k-1) 0=x:=⟨_,rfl⟩;have HX:=lH hx;rw[hx] at EH;clear hx;by_cases hz:x=0
   ·subst hz
    have hz:=HX.o;have HT:=lH (QF pX (by have:=HL.o;omega) hz);clear hz b0 b1 bf bl;(go_wp2_with fail)
    go_round
    case rel=>exact⟨k-1,by omega,rfl,by rw[HT.o,HV.o]⟩
    case measure=>simp;omega
   ·have hzb:((x:Int) == 0)=false:=by simp;exact hz
    have HZ:Hid (ws.getD (k-1) 0≠0):=lH (by rw[HX.o];exact hz);clear hz;cases m with
    | true=>
     (go_wp2_with fail);generalize NC:(W.setCell ⟨g,0,none⟩ _).setCell ⟨g,1,none⟩ _=W2;have dB:Hid (aD W2 g 85 #[.bool true,.slice (some ⟨b,off,none⟩) k c]):=lH (by rw[<-NC];exact bD HB.o);have rN:Hid (Below g w W2):=lH (by rw[<-NC];exact bQ HK.o lR);clear NC b0 b1;obtain⟨q0,q1⟩:=dB.o.a2;refine bodyPost_ret (v:=.agg #[.bool true,.slice (some ⟨b,off,none⟩) k c]) (by simp[results,Tryz.results105,go_sem,q0,q1,pX]) rfl (HE.o _ _ _ rN.o (((HR.o.take hk).below rN.o lR).more (HG.o▸rN.o.size)) (.inr HZ.o) (by simp[pX]) rfl)
    | false=>
     (go_wp2_with fail);generalize NC:(W.setCell ⟨g,0,none⟩ _).setCell ⟨g,1,none⟩ _=W2;have dB:Hid (aD W2 g 85 #[.bool (false && decide (0<k)),.slice (some ⟨b,off,none⟩) k c]):=lH (by rw[<-NC];exact bD HB.o);have rN:Hid (Below g w W2):=lH (by rw[<-NC];exact bQ HK.o lR);clear NC b0 b1;obtain⟨q0,q1⟩:=dB.o.a2;refine bodyPost_ret (v:=.agg #[.bool (false && decide (0<k)),.slice (some ⟨b,off,none⟩) k c]) (by simp[results,Tryz.results105,go_sem,q0,q1,pX]) rfl (HE.o _ _ _ rN.o (((HR.o.take hk).below rN.o lR).more (HG.o▸rN.o.size)) (.inr HZ.o) rfl rfl)
theorem aBx(z:Int):wC (!decide (z<0)) z.natAbs=-z:=by
 unfold wC;by_cases h:z<0
 ·simp[h];omega
 ·simp[h];omega
theorem zH(z:Int)(b:Bool)(A:OA)(n c:Nat)(w:Wo)(h:bE w w.heap.size z b A n c):Calls Tryz.prog 124 #[.agg #[.bool b,.slice A n c]] w (SV (-z) w):=by
 have cI:Hid (Below w.heap.size w ((w.alloc (aK b A n c)).alloc bU)):=lH ((bA).alloc (by simp) _);have HX:=lH ((aD.new w 85 #[.bool b,.slice A n c]).alloc bU);have HG:Hid (aD ((w.alloc (aK b A n c)).alloc bU) (w.heap.size+1) 85 #[.bool false,.slice none 0 0]):=lH (aD.new_ (by simp));have HH:=lH (h.up cI.o);have mF:w.heap.size<=w.heap.size+1:=by omega
 have HE:=lH h.eb;clear h;go_enter Tryz.func124,Tryz.ntmps124
 obtain⟨x0,x1,xl⟩:=HX.o.b2
 go_wp2_with fail
 clear x0 x1 xl;generalize (w.alloc (aK b A n c)).alloc bU=W at *;refine(gU (!b) A n c (gX z.natAbs) W (by have h:=HH.o.rd;have e:=HH.o.en;exact h) (fA _) HH.o.nc HH.o.cm).mono ?_;rw[cU,HE.o,aBx];rintro e w2 ⟨k,b2,A2,n2,c2,rfl,h2⟩;have dB:=bX cI k;have fW:=lH (HG.o.bl k);have H2:=lH h2;clear k h2 HG HX HH;obtain⟨z0,z1,zf,zl⟩:=fW.o.e2
 go_wp2_with fail
 generalize dO:(w2.setCell ⟨_,0,none⟩ _).setCell ⟨_,1,none⟩ _=W9;have fO:=lH (kX (e:=.returned (.agg #[.bool b2,.slice A2 n2 c2])) dB.o mF fW.o (by simp) (by simp) H2.o rfl);rw[dO] at fO;have eU:Hid (aD W9 _ 85 #[.bool b2,.slice A2 n2 c2]):=lH (by rw[<-dO];exact bD fW.o);clear dO z0 z1 zf zl;obtain⟨q0,q1⟩:=eU.o.a2;exact bodyPost_ret (v:=.agg #[.bool b2,.slice A2 n2 c2]) (by simp[results,Tryz.results124,go_sem,q0,q1]) rfl fO.o
theorem wV(z:Int)(b:Bool)(A:OA)(n c:Nat)(w:Wo)(h:bE w w.heap.size z b A n c):Calls Tryz.prog 134 #[.agg #[.bool b,.slice A n c]] w fun e w'=>e=.returned (.int .i64 z.sign)/\Below w.heap.size w w':=by
 obtain⟨HX,HE,HN⟩:=eR (aD.new w 85 #[.bool b,.slice A n c]) h.eb h.en;clear h;go_enter Tryz.func134,Tryz.ntmps134
 obtain⟨x0,x1,xl⟩:=HX.o.b2;have cI:=lH ((Below.refl w.heap.size w).alloc lR (.cells #[.bool b,.slice A n c] 85));by_cases hz:z=0
 ·have hn:n=0:=by rw[HN.o,hz];exact fK
  have HZ:Hid (z.sign=0):=lH (by rw[hz];rfl);clear hz;subst hn;(go_wp2_with fail);go_ret;exact⟨aQ HZ.o.symm,cI.o⟩
 ·have hn:((n:Int) == 0)=false:=by
   have h1:n≠0:=by rw[HN.o,gV (by omega)];omega
   simp;omega
  cases b with
  | true=>
   have HZ:Hid (z.sign=-1):=lH (Int.sign_eq_neg_one_of_neg (by have:=HE.o;simpa using this.symm));clear hz;(go_wp2_with fail);go_ret;exact⟨aQ HZ.o.symm,cI.o⟩
  | false=>
   have HZ:Hid (z.sign=1):=lH (Int.sign_eq_one_of_pos (by have:=HE.o;simp at this;omega));clear hz;(go_wp2_with fail);go_ret;exact⟨aQ HZ.o.symm,cI.o⟩
theorem sQ(n:Int)(w:Wo)(h0:-9223372036854775808<=n)(h1:n<=9223372036854775807):Calls Tryz.prog 98 #[.int .i64 n] w (SV n w):=by
 obtain⟨m,hm⟩:∃m,n.natAbs=m:=⟨_,rfl⟩;have hml:m<18446744073709551616:=by omega
 have HWD:Hid (Wd [m % 4294967296,m / 4294967296]):=lH (fun x hx=>by
  simp at hx;rcases hx with rfl | rfl<;>omega)
 have Z5:Hid (wv [m % 4294967296,m / 4294967296]=m):=lH (by simp only[wv];omega);go_enter Tryz.func98,Tryz.ntmps98
 by_cases hn:n<0
 ·have HV:Hid (wC true (wv [m % 4294967296,m / 4294967296])=n):=lH (by rw[Z5.o];show -(m:Int)=n;omega)
  have hw1:IntKind.u64.wrap n=n+18446744073709551616:=by
   rw[z8];omega
  have hw2:IntKind.u64.wrap (-(n+18446744073709551616))=(m:Int):=by
   rw[z8];omega
  have HM:=lH hm;have HN:=lH hn;clear hm;have HW:Hid (Below w.heap.size w ((w.alloc bU).alloc (.cells (aY [m % 4294967296,m / 4294967296]).toArray 175))):=lH ((bA).alloc (by simp) _);have HG:Hid (aD ((w.alloc bU).alloc (.cells (aY [m % 4294967296,m / 4294967296]).toArray 175)) w.heap.size 85 #[.bool false,.slice none 0 0]):=lH ((aD.new w _ _).alloc _);have HS:Hid (aD ((w.alloc bU).alloc (.cells (aY [m % 4294967296,m / 4294967296]).toArray 175)) (w.heap.size+1) 175 (aY [m % 4294967296,m / 4294967296]).toArray):=lH (aD.new_ (by simp));have mF:w.heap.size<=w.heap.size:=lR;(go_wp2_with fail);clear hw1 hw2;have TT:#[.int .u32 ((m:Int) % 4294967296),.int .u32 ((m:Int) / 4294967296)]=(aY [m % 4294967296,m / 4294967296]).toArray:=by
   simp[aY]
  rw[TT];clear TT;generalize (w.alloc bU).alloc (.cells (aY [m % 4294967296,m / 4294967296]).toArray 175)=W at *;refine(gU true (some ⟨w.heap.size+1,0,none⟩) 2 2 [m % 4294967296,m / 4294967296] W (mU HS.o) HWD.o lR (by decide)).mono ?_;rw[HV.o];rintro e w2 ⟨k,b2,A2,n2,c2,rfl,h2⟩;have dB:=bX HW k;have fW:=lH (HG.o.bl k);have H2:=lH h2;clear k h2 HG HS HW;obtain⟨z0,z1,zf,zl⟩:=fW.o.e2;(go_wp2_with fail);generalize dO:(w2.setCell ⟨_,0,none⟩ _).setCell ⟨_,1,none⟩ _=W9;have fO:=lH (kX (e:=.returned (.agg #[.bool b2,.slice A2 n2 c2])) dB.o mF fW.o (by simp) (by simp) H2.o rfl);rw[dO] at fO;have eU:Hid (aD W9 _ 85 #[.bool b2,.slice A2 n2 c2]):=lH (by rw[<-dO];exact bD fW.o);clear dO z0 z1 zf zl;obtain⟨q0,q1⟩:=eU.o.a2;exact bodyPost_ret (v:=.agg #[.bool b2,.slice A2 n2 c2]) (by simp[results,Tryz.results98,go_sem,q0,q1]) rfl fO.o
 ·have HV:Hid (wC false (wv [m % 4294967296,m / 4294967296])=n):=lH (by rw[Z5.o];show(m:Int)=n;omega)
  have TP:n=(m:Int):=by omega
  subst TP;clear hm;have HW:Hid (Below w.heap.size w ((w.alloc bU).alloc (.cells (aY [m % 4294967296,m / 4294967296]).toArray 175))):=lH ((bA).alloc (by simp) _);have HG:Hid (aD ((w.alloc bU).alloc (.cells (aY [m % 4294967296,m / 4294967296]).toArray 175)) w.heap.size 85 #[.bool false,.slice none 0 0]):=lH ((aD.new w _ _).alloc _);have HS:Hid (aD ((w.alloc bU).alloc (.cells (aY [m % 4294967296,m / 4294967296]).toArray 175)) (w.heap.size+1) 175 (aY [m % 4294967296,m / 4294967296]).toArray):=lH (aD.new_ (by simp));have mF:w.heap.size<=w.heap.size:=lR;(go_wp2_with fail);have TT:#[.int .u32 ((m:Int) % 4294967296),.int .u32 ((m:Int) / 4294967296)]=(aY [m % 4294967296,m / 4294967296]).toArray:=by
   simp[aY]
  rw[TT];clear TT;generalize (w.alloc bU).alloc (.cells (aY [m % 4294967296,m / 4294967296]).toArray 175)=W at *;refine(gU false (some ⟨w.heap.size+1,0,none⟩) 2 2 [m % 4294967296,m / 4294967296] W (mU HS.o) HWD.o lR (by decide)).mono ?_;rw[HV.o];rintro e w2 ⟨k,b2,A2,n2,c2,rfl,h2⟩;have dB:=bX HW k;have fW:=lH (HG.o.bl k);have H2:=lH h2;clear k h2 HG HS HW;obtain⟨z0,z1,zf,zl⟩:=fW.o.e2;(go_wp2_with fail);generalize dO:(w2.setCell ⟨_,0,none⟩ _).setCell ⟨_,1,none⟩ _=W9;have fO:=lH (kX (e:=.returned (.agg #[.bool b2,.slice A2 n2 c2])) dB.o mF fW.o (by simp) (by simp) H2.o rfl);rw[dO] at fO;have eU:Hid (aD W9 _ 85 #[.bool b2,.slice A2 n2 c2]):=lH (by rw[<-dO];exact bD fW.o);clear dO z0 z1 zf zl;obtain⟨q0,q1⟩:=eU.o.a2;exact bodyPost_ret (v:=.agg #[.bool b2,.slice A2 n2 c2]) (by simp[results,Tryz.results98,go_sem,q0,q1]) rfl fO.o
def K5(x y:Nat)(r:Int):Prop:=(r<0<->x<y)/\(r=0<->x=y)
theorem SN(h:cE x≠cE y):K5 x y ((cE x:Int)-(cE y:Int)):=by
 rcases Nat.lt_or_gt_of_ne h with h1 | h1
 ·have:=AV h1
  exact⟨by omega,by omega⟩
 ·have:=AV h1
  exact⟨by omega,by omega⟩
theorem Y_(h:x<y):K5 x y (-1):=⟨by omega,by omega⟩
theorem ZA(h:y<x):K5 x y 1:=⟨by omega,by omega⟩
theorem ZB(h:x=y):K5 x y 0:=⟨by omega,by omega⟩
def aPe(x y:Nat)(w:Wo)(e:Ending)(w':Wo):Prop:=(∃r:Int,e=.returned (.int .i64 r)/\K5 x y r)/\∃nq,w'=w.drewN nq
theorem J_(A:OA)(n c:Nat)(B:OA)(m d:Nat)(x y:Nat)(w:Wo)(hx:gF w w.heap.size A n (gX x))(hy:gF w w.heap.size B m (gX y))(hn:n<=9223372036854775807)(hm:m<=9223372036854775807):Calls Tryz.prog 132 #[.slice A n c,.slice B m d] w (aPe x y w):=by
 have hxl:=hx.len;have hyl:=hy.len;have HX:=lH hx;have HY:=lH hy;have Z1:Hid (cE x=n):=lH hxl;have TX:Hid (cE y=m):=lH hyl;clear hx hy hxl hyl;go_enter Tryz.func132,Tryz.ntmps132
 by_cases GT:n=m
 ·subst GT
  have nD:Hid ((gX x).length=(gX y).length):=lH (by rw[o9,o9,Z1.o,TX.o]);(go_wp2_with fail)
  go_loopw [5] (fun v5 wr=>∃k:Nat,k<=n/\v5=.int .i64 ((k:Int)-1)/\(gX x).drop k=(gX y).drop k/\∃nq,wr=w.drewN nq) (fun v5 _=>(intOf v5+1).toNat)
  case atStart=>exact⟨n,lR,rfl,by rw[List.drop_eq_nil_of_le (by rw[o9,Z1.o];exact lR),List.drop_eq_nil_of_le (by rw[o9,TX.o];exact lR)],0,rfl⟩
  case round=>
   obtain⟨k,hk,rfl,hd,nq,rfl⟩:=hrel;have HD:=lH hd;clear hd;by_cases h0:k=0
   ·subst h0
    have HE:Hid (x=y):=lH (by have:=HD.o;simp at this;rw[<-cU x,this,cU]);have e:(((0:Nat):Int)-1)=-1:=rfl;rw[e];clear e;(go_wp2_with fail);go_ret;exact⟨⟨0,rfl,ZB HE.o⟩,nq,rfl⟩
   ·obtain⟨j,rfl⟩:∃j,k=j+1:=⟨k-1,by omega⟩
    have e:(((j+1:Nat):Int)-1)=(j:Int):=by omega
    rw[e];clear e h0;have hj:j<n:=hk;obtain⟨b1,o1,sX,bG⟩:=HX.o.form (by omega);subst sX;obtain⟨b2,o2,R_,bV⟩:=HY.o.form (by omega);subst R_;have hcx:=HX.o.at_ hj;have hcy:=HY.o.at_ hj;have HC:=lH (fun h=>T8 (fA x) nD.o (i:=j) (by rw[o9,Z1.o];exact hj) HD.o h);have K2:=lH (fun h=>T8 (fA y) nD.o.symm (i:=j) (by rw[o9,TX.o];exact hj) HD.o.symm h);have HQ:=lH (fun h=>F6 nD.o (i:=j) (by rw[o9,Z1.o];exact hj) HD.o h);obtain⟨xj,hxj⟩:∃v,(gX x).getD j 0=v:=⟨_,rfl⟩;obtain⟨yj,hyj⟩:∃v,(gX y).getD j 0=v:=⟨_,rfl⟩;have HXJ:=lH hxj;have HYJ:=lH hyj;rw[hxj] at hcx;rw[hyj] at hcy;clear hxj hyj;have hjI:(j:Int)<(n:Int):=by omega
    rcases Nat.lt_trichotomy xj yj with h | h | h
    ·have HR:Hid (x<y):=lH (by have:=HC.o (by rw[HXJ.o,HYJ.o];exact h);rwa[cU,cU] at this)
     have t1:((xj:Int) != (yj:Int))=true:=by simp;omega
     have t1':((xj:Int) == (yj:Int))=false:=by simp;omega
     have t2:decide (xj<yj)=true:=by simpa using h
     clear h;(go_wp2_with fail)
     go_quiet (fail)
     go_wp2_with fail
     go_quiet (fail)
     (go_wp2_with fail);go_ret;exact⟨⟨-1,rfl,Y_ HR.o⟩,_,by rw[World.drewN_drewN,World.drewN_drewN]⟩
    ·subst h
     have HR:=lH (HQ.o (by rw[HXJ.o,HYJ.o]));(go_wp2_with fail)
     go_quiet (fail)
     (go_wp2_with fail);go_roundw
     case rel=>exact⟨j,by omega,by go_num,HR.o,_,rfl⟩
     case measure=>simp[intOf]
    ·have HR:Hid (y<x):=lH (by have:=K2.o (by rw[HXJ.o,HYJ.o];exact h);rwa[cU,cU] at this)
     have t1:((xj:Int) != (yj:Int))=true:=by simp;omega
     have t1':((xj:Int) == (yj:Int))=false:=by simp;omega
     have t2:decide (xj<yj)=false:=by simp;omega
     clear h;(go_wp2_with fail)
     go_quiet (fail)
     go_wp2_with fail
     go_quiet (fail)
     (go_wp2_with fail);go_ret;exact⟨⟨1,rfl,ZA HR.o⟩,_,by rw[World.drewN_drewN,World.drewN_drewN]⟩
 ·have HR:=lH (SN (x:=x) (y:=y) (by rw[Z1.o,TX.o];exact GT))
  rw[Z1.o,TX.o] at HR;have h1:((n:Int) == (m:Int))=false:=by simp;omega
  have h2:((n:Int) != (m:Int))=true:=by simp;omega
  clear GT;(go_wp2_with fail);go_ret;exact⟨⟨_,rfl,HR.o⟩,0,rfl⟩
structure GQ (a b:List Nat) (n k cc:Nat) (out:List Nat):Prop where
 len:out.length=n+1
 od:Wd out
 oz:Zf out k
 c1:cc<=1
 eq:wv out+cc*BB k=wv (a.take k)+wv (b.take k)
theorem GQ.step{b:List Nat}(H:GQ a b n k cc out)(ha:Wd a)(hb:Wd b)(hk:k<n):GQ a b n (k+1) ((cc+a.getD k 0+b.getD k 0) / 4294967296) (out.set k ((cc+a.getD k 0+b.getD k 0) % 4294967296)):=by
 have hl:=H.len;obtain⟨h1,h2⟩:=ZS ha hb (by omega) H.oz H.c1 H.eq;exact⟨by rw[jI];exact hl,H.od.set _ (Nat.mod_lt _ (by decide)),H.oz.put,h1,h2⟩
theorem aIW(A:OA)(n c:Nat)(B:OA)(m d:Nat)(a0 b0:List Nat)(w:Wo)(ha:gF w w.heap.size A n a0)(hb:gF w w.heap.size B m b0)(O3:Wd a0)(DA:Wd b0)(hn:n<=35184372088832)(hm:m<=35184372088832):Calls Tryz.prog 131 #[.slice A n c,.slice B m d] w (ZW (wv a0+wv b0) w):=by
 obtain⟨HA,HB,K3,DJ⟩:=gO ha hb O3 DA;clear ha hb O3 DA;go_enter Tryz.func131,Tryz.ntmps131
 go_upto_if 12 with fail
 go_cut [0,1] (fun v0 v1 wc=>wc=w/\∃A n c B m d a b,v0=.slice A n c/\v1=.slice B m d/\gF w w.heap.size A n a/\gF w w.heap.size B m b/\Wd a/\Wd b/\m<=n/\n<=35184372088832/\wv a+wv b=wv a0+wv b0)
 case first=>
  by_cases GT:n<m
  ·go_wp2_with fail
   go_meet
   case rel=>exact⟨rfl,_,_,_,_,_,_,_,_,rfl,rfl,HB.o,HA.o,DJ.o,K3.o,by omega,hm,by omega⟩
  ·go_wp2_with fail
   go_meet
   case rel=>exact⟨rfl,_,_,_,_,_,_,_,_,rfl,rfl,HA.o,HB.o,K3.o,DJ.o,by omega,hn,rfl⟩
 clear HA HB K3 DJ hn hm;obtain⟨rfl,A,n,c,B,m,d,a,b,rfl,rfl,ha,hb,O3,DA,hmn,hn,hv⟩:=hcut;obtain⟨HA,HB,K3,DJ,HV⟩:=mP ha hb O3 DA hv;have vR:=lH ha.len;have kB:=lH hb.len;clear ha hb O3 DA hv;generalize wc=w at *;have tO:∀w:World,(Instr.makeSlice 83 (.int .i64 ((n:Int)+1)) (.int .i64 ((n:Int)+1))).run Tryz.prog w=.ok (.slice (some ⟨w.heap.size,0,none⟩) (n+1) (n+1)) (w.alloc (.cells (aY (List.replicate (n+1) 0)).toArray 175)):=fun w=>mA (n+1) (by omega) w;have HK:=lH ((Below.refl w.heap.size w).alloc lR (.cells (aY (List.replicate (n+1) 0)).toArray 175));have HG:=lH (aD.new w 175 (aY (List.replicate (n+1) 0)).toArray)
 go_wp2_with fail
 clear tO;generalize w.alloc (.cells (aY (List.replicate (n+1) 0)).toArray 175)=W at *;generalize hg:w.heap.size=g at *;have kZ:=lH hg;clear hg
 go_loopw [6,21] (fun v6 v21 wr=>∃(k cc:Nat)(out:List Nat),k<=n/\v21=.int .i64 k/\v6=.int .u64 cc/\Below g w wr/\aD wr g 175 (aY out).toArray/\GQ a b n k cc out) (fun _ v21 _=>n-(intOf v21).toNat)
 case atStart=>exact⟨0,0,_,by omega,rfl,rfl,HK.o,HG.o,⟨by simp,lX _,nJ _ _,by omega,by rw[lW];simp[wv]⟩⟩
 case round=>
  clear HK HG;obtain⟨k,cc,out,hk,rfl,rfl,hb,hg,hI⟩:=hrel;obtain⟨HK,HG,HI⟩:=eR hb hg hI;clear hb hg hI;have M_:=HI.o.c1;have xY:=HG.o.lt;have XU:=HG.o.frozen;by_cases aR:k<n
  ·obtain⟨ab,ao,sX,iI⟩:=HA.o.form (by omega)
   subst sX;have CO:=(HA.o.lift HK.o (by omega)).at_ aR;have M9:=bF HG.o (i:=k) (by rw[HI.o.len];omega);have HN:=lH (HI.o.step K3.o DJ.o aR);have hx:=K3.o.getD k;have hy:=DJ.o.getD k;obtain⟨x,D_⟩:∃x,a.getD k 0=x:=⟨_,rfl⟩;obtain⟨y,TL⟩:∃y,b.getD k 0=y:=⟨_,rfl⟩;have HYY:=lH TL;rw[D_] at CO hx;rw[TL] at hy;rw[D_,TL] at HN;obtain⟨z,mK⟩:∃z,out.getD k 0=z:=⟨_,rfl⟩;rw[mK] at M9;clear D_ TL mK;have JJ:ab<wr.heap.size:=by omega
   have iM:(k:Int)<(n:Int):=by omega
   by_cases hkm:k<m
   ·obtain⟨bb,bo,JL,pY⟩:=HB.o.form (by omega)
    subst JL;have zK:=(HB.o.lift HK.o (by omega)).at_ hkm;rw[HYY.o] at zK;have aB0:bb<wr.heap.size:=by omega
    have aED:(k:Int)<(m:Int):=by omega
    (go_wp2_with fail);go_roundw
    case rel=>exact⟨k+1,(cc+x+y) / 4294967296,out.set k ((cc+x+y) % 4294967296),by omega,by go_num,aM (by omega),HK.o.setCell lR _,dP HG.o (by omega),HN.o⟩
    case measure=>simp[intOf];omega
   ·have uP:y=0:=by rw[<-HYY.o];exact v_ (by rw[kB.o];omega)
    subst uP;have aED:¬(k:Int)<(m:Int):=by omega
    (go_wp2_with fail);go_roundw
    case rel=>exact⟨k+1,(cc+x+0) / 4294967296,out.set k ((cc+x+0) % 4294967296),by omega,by go_num,aM (by omega),HK.o.setCell lR _,dP HG.o (by omega),HN.o⟩
    case measure=>simp[intOf];omega
  ·have pP:k=n:=by omega
   subst pP;have M9:=bF HG.o (i:=k) (by rw[HI.o.len];omega);obtain⟨z,mK⟩:∃z,out.getD k 0=z:=⟨_,rfl⟩;rw[mK] at M9;clear mK;have g1:(k:Int)<(k:Int)+1:=by omega
   have HE:Hid (wv (out.set k cc)=wv a0+wv b0):=lH (by
    rw[PQ (v:=wv a0+wv b0) (by rw[HI.o.len];omega) HI.o.oz];rw[HI.o.eq,oP (by rw[vR.o];exact lR),oP (by rw[kB.o];exact hmn)];exact HV.o)
   have HW:Hid (Wd (out.set k cc)):=lH (HI.o.od.set _ (by omega));have G0:Hid ((out.set k cc).length=k+1):=lH (by rw[jI];exact HI.o.len);(go_wp2_with fail);go_ret;exact DZ (by rw[kZ.o];exact HK.o.setCell lR _) (dP HG.o rfl) G0.o HW.o HE.o (by omega) rfl
structure GE (a b:List Nat) (n k:Nat) (cc:Int) (out:List Nat):Prop where
 len:out.length=n
 od:Wd out
 oz:Zf out k
 c1:-1<=cc
 c2:cc<=0
 eq:(wv out:Int)+cc*(BB k:Int)=(wv (a.take k):Int)-(wv (b.take k):Int)
theorem GE.step{b:List Nat}{cc:Int}(H:GE a b n k cc out)(ha:Wd a)(hb:Wd b)(hk:k<n):GE a b n (k+1) ((cc+a.getD k 0-b.getD k 0) / 4294967296) (out.set k ((cc+a.getD k 0-b.getD k 0) % 4294967296).toNat):=by
 have hl:=H.len;obtain⟨h1,h2,h3⟩:=US ha hb (by omega) H.oz H.c1 H.c2 H.eq;exact⟨by rw[jI];exact hl,H.od.set _ (by omega),H.oz.put,h1,h2,h3⟩
theorem aCT(A:OA)(n c:Nat)(B:OA)(m d:Nat)(a b:List Nat)(w:Wo)(ha:gF w w.heap.size A n a)(hb:gF w w.heap.size B m b)(O3:Wd a)(DA:Wd b)(hn:n<=35184372088832)(hmn:m<=n)(FW:wv b<=wv a):Calls Tryz.prog 133 #[.slice A n c,.slice B m d] w (ZW (wv a-wv b) w):=by
 obtain⟨HA,HB,K3,DJ,vR⟩:=mP ha hb O3 DA ha.len;have kB:=lH hb.len;have P3:=lH FW;clear ha hb O3 DA FW;have tO:∀w:World,(Instr.makeSlice 83 (.int .i64 (n:Int)) (.int .i64 (n:Int))).run Tryz.prog w=.ok (.slice (some ⟨w.heap.size,0,none⟩) n n) (w.alloc (.cells (aY (List.replicate n 0)).toArray 175)):=fun w=>mA n (by omega) w;have HK:=lH ((Below.refl w.heap.size w).alloc lR (.cells (aY (List.replicate n 0)).toArray 175));have HG:=lH (aD.new w 175 (aY (List.replicate n 0)).toArray);go_enter Tryz.func133,Tryz.ntmps133
 go_wp2_with fail
 clear tO;generalize w.alloc (.cells (aY (List.replicate n 0)).toArray 175)=W at *;generalize hg:w.heap.size=g at *;have kZ:=lH hg;clear hg
 go_loopw [6,13] (fun v6 v13 wr=>∃(k:Nat)(cc:Int)(out:List Nat),k<=n/\v13=.int .i64 k/\v6=.int .i64 cc/\Below g w wr/\aD wr g 175 (aY out).toArray/\GE a b n k cc out) (fun _ v13 _=>n-(intOf v13).toNat)
 case atStart=>exact⟨0,0,_,by omega,rfl,rfl,HK.o,HG.o,⟨by simp,lX _,nJ _ _,by omega,by omega,by rw[lW];simp[wv]⟩⟩
 case round=>
  clear HK HG;obtain⟨k,cc,out,hk,rfl,rfl,hb,hg,hI⟩:=hrel;obtain⟨HK,HG,HI⟩:=eR hb hg hI;clear hb hg hI;have M_:=HI.o.c1;have aTJ:=HI.o.c2;have xY:=HG.o.lt;have XU:=HG.o.frozen;by_cases aR:k<n
  ·obtain⟨ab,ao,sX,iI⟩:=HA.o.form (by omega)
   subst sX;have CO:=(HA.o.lift HK.o (by omega)).at_ aR;have M9:=bF HG.o (i:=k) (by rw[HI.o.len];omega);have HN:=lH (HI.o.step K3.o DJ.o aR);have hx:=K3.o.getD k;have hy:=DJ.o.getD k;obtain⟨x,D_⟩:∃x,a.getD k 0=x:=⟨_,rfl⟩;obtain⟨y,TL⟩:∃y,b.getD k 0=y:=⟨_,rfl⟩;have HYY:=lH TL;rw[D_] at CO hx;rw[TL] at hy;rw[D_,TL] at HN;obtain⟨z,mK⟩:∃z,out.getD k 0=z:=⟨_,rfl⟩;rw[mK] at M9;clear D_ TL mK;have JJ:ab<wr.heap.size:=by omega
   have iM:(k:Int)<(n:Int):=by omega
   by_cases hkm:k<m
   ·obtain⟨bb,bo,JL,pY⟩:=HB.o.form (by omega)
    subst JL;have zK:=(HB.o.lift HK.o (by omega)).at_ hkm;rw[HYY.o] at zK;have aB0:bb<wr.heap.size:=by omega
    have aED:(k:Int)<(m:Int):=by omega
    (go_wp2_with fail);go_roundw
    case rel=>exact⟨k+1,_,_,by omega,by go_num,aM (by omega),HK.o.setCell lR _,dP HG.o (by omega),HN.o⟩
    case measure=>simp[intOf];omega
   ·have uP:y=0:=by rw[<-HYY.o];exact v_ (by rw[kB.o];omega)
    subst uP;have aED:¬(k:Int)<(m:Int):=by omega
    (go_wp2_with fail);go_roundw
    case rel=>exact⟨k+1,_,_,by omega,by go_num,aM (by omega),HK.o.setCell lR _,dP HG.o (by omega),HN.o⟩
    case measure=>simp[intOf];omega
  ·have pP:k=n:=by omega
   subst pP;have HE:Hid (wv out=wv a-wv b):=lH (by
    have h:=HI.o.eq;rw[oP (by rw[vR.o];exact lR),oP (by rw[kB.o];exact hmn)] at h;rw[<-HI.o.len] at h;exact aA4 HI.o.c1 HI.o.c2 HI.o.od P3.o h)
   (go_wp2_with fail);go_ret;exact DZ (by rw[kZ.o];exact HK.o) HG.o HI.o.len HI.o.od HE.o (by omega) rfl
structure GF (a:List Nat) (n d k r:Nat) (out:List Nat):Prop where
 len:out.length=n
 od:Wd out
 rd:r<d
 eq:wv (a.drop k)=d*wv (out.drop k)+r
theorem GF.step{r:Nat}(H:GF a n d (k+1) r out)(ha:Wd a)(hl:a.length=n)(hd:0<d)(R5:d<4294967296)(hk:k<n):(r*4294967296+a.getD k 0) / d<4294967296/\GF a n d k ((r*4294967296+a.getD k 0) % d) (out.set k ((r*4294967296+a.getD k 0) / d)):=by
 have hl2:=H.len;obtain⟨h1,h2⟩:=QT ha (by omega) hd R5 H.rd (by omega) H.eq;exact⟨h1,by rw[jI];exact hl2,H.od.set _ h1,Nat.mod_lt _ hd,h2⟩
def aI3(v d:Nat)(w:Wo)(e:Ending)(w':Wo):Prop:=Below w.heap.size w w'/\∃g n l,e=.returned (.tuple #[.slice (some ⟨g,0,none⟩) n n,.int .u32 ((v % d:Nat):Int)])/\gF w' w'.heap.size (some ⟨g,0,none⟩) n l/\Wd l/\wv l=v / d/\n<=35184372088832/\w.heap.size<=g
theorem aBa{v:Nat}{r:Nat}(hb:Below w.heap.size w w')(hg:aD w' g t (aY l).toArray)(hl:l.length=n)(hd:Wd l)(hn:n<=35184372088832)(hgw:w.heap.size<=g)(hr:r<d)(hv:v=d*wv l+r)(he:e=.returned (.tuple #[.slice (some ⟨g,0,none⟩) n n,.int .u32 (r:Int)])):aI3 v d w e w':=by
 have h1:v / d=wv l:=by rw[hv,Nat.mul_add_div (by omega),Nat.div_eq_of_lt hr,Nat.add_zero]
 have h2:v % d=r:=by rw[hv,Nat.mul_add_mod,Nat.mod_eq_of_lt hr]
 refine⟨hb,g,n,l,by rw[he,h2],by subst hl;exact mU hg,hd,h1.symm,hn,hgw⟩
theorem aCV(A:OA)(n c:Nat)(d:Nat)(a:List Nat)(w:Wo)(ha:gF w w.heap.size A n a)(O3:Wd a)(hn:n<=35184372088832)(hd:0<d)(R5:d<4294967296):Calls Tryz.prog 104 #[.slice A n c,.int .u32 (d:Int)] w (aI3 (wv a) d w):=by
 obtain⟨HA,K3,vR⟩:=eR ha O3 ha.len;clear ha O3;have tO:∀w:World,(Instr.makeSlice 83 (.int .i64 (n:Int)) (.int .i64 (n:Int))).run Tryz.prog w=.ok (.slice (some ⟨w.heap.size,0,none⟩) n n) (w.alloc (.cells (aY (List.replicate n 0)).toArray 175)):=fun w=>mA n (by omega) w;have HK:=lH ((Below.refl w.heap.size w).alloc lR (.cells (aY (List.replicate n 0)).toArray 175));have HG:=lH (aD.new w 175 (aY (List.replicate n 0)).toArray);go_enter Tryz.func104,Tryz.ntmps104
 go_wp2_with fail
 clear tO;generalize w.alloc (.cells (aY (List.replicate n 0)).toArray 175)=W at *;generalize hg:w.heap.size=g at *;have kZ:=lH hg;clear hg
 go_loopw [7,8] (fun v7 v8 wr=>∃(k r:Nat)(out:List Nat),k<=n/\v8=.int .i64 ((k:Int)-1)/\v7=.int .u64 r/\Below g w wr/\aD wr g 175 (aY out).toArray/\GF a n d k r out) (fun _ v8 _=>(intOf v8+1).toNat)
 case atStart=>exact⟨n,0,_,lR,rfl,rfl,HK.o,HG.o,⟨by simp,lX _,hd,by rw[List.drop_eq_nil_of_le (by rw[vR.o];exact lR),List.drop_eq_nil_of_le (by simp)];simp[wv]⟩⟩
 case round=>
  clear HK HG;obtain⟨k,r,out,hk,rfl,rfl,hb,hg,hI⟩:=hrel;obtain⟨HK,HG,HI⟩:=eR hb hg hI;clear hb hg hI;have xY:=HG.o.lt;have XU:=HG.o.frozen;have FV:=HI.o.rd;by_cases h0:k=0
  ·subst h0
   have HE:Hid (wv a=d*wv out+r):=lH (by have:=HI.o.eq;simpa using this);have e:(((0:Nat):Int)-1)=-1:=rfl;rw[e];clear e;(go_wp2_with fail);go_ret2;exact aBa (by rw[kZ.o];exact HK.o) HG.o HI.o.len HI.o.od hn (by rw[kZ.o];exact lR) HI.o.rd HE.o rfl
  ·obtain⟨j,rfl⟩:∃j,k=j+1:=⟨k-1,by omega⟩
   have e:(((j+1:Nat):Int)-1)=(j:Int):=by omega
   rw[e];clear e h0;have hj:j<n:=hk;obtain⟨ab,ao,sX,iI⟩:=HA.o.form (by omega);subst sX;have CO:=(HA.o.lift HK.o (by omega)).at_ hj;have M9:=bF HG.o (i:=j) (by rw[HI.o.len];omega);have HN:=lH (HI.o.step K3.o vR.o hd R5 hj);have hx:=K3.o.getD j;obtain⟨x,D_⟩:∃x,a.getD j 0=x:=⟨_,rfl⟩;rw[D_] at CO hx HN;obtain⟨z,mK⟩:∃z,out.getD j 0=z:=⟨_,rfl⟩;rw[mK] at M9;clear D_ mK;have JJ:ab<wr.heap.size:=by omega
   have hjI:(j:Int)<(n:Int):=by omega
   have aEl:r<4294967296:=by omega
   have hor:bits BinOp.or IntKind.u64 ((r:Int)*4294967296) (x:Int)=((r*4294967296+x:Nat):Int):=uE r x 32 (by omega) aEl hx;have hsl:r*4294967296+x<18446744073709551616:=by omega
   generalize r*4294967296+x=s at hor hsl HN;have htm:=G7 s d;have W_:=G9 s d;have TO:=HN.o.1;have e_:=lH HN.o.2;clear HN;generalize s / d=q at *;generalize s % d=t at *;have hwq:IntKind.u64.wrap (q:Int)=(q:Int):=Go.IntWalk.u64_in _ (by omega);(go_wp2_with fail);go_roundw
   case rel=>exact⟨j,t,_,by omega,rfl,rfl,HK.o.setCell lR _,dP HG.o (by omega),e_.o⟩
   case measure=>simp[intOf]
structure PR (a:List Nat) (n s k cc:Nat) (out:List Nat):Prop where
 len:out.length=n+1
 od:Wd out
 oz:Zf out k
 c1:cc<2^s
 eq:wv out+cc*BB k=wv (a.take k)*2^s
theorem PR.step{s:Nat}(H:PR a n s k cc out)(ha:Wd a)(hs:s<=31)(hk:k<n):cc+a.getD k 0*2^s<18446744073709551616/\PR a n s (k+1) ((cc+a.getD k 0*2^s) / 4294967296) (out.set k ((cc+a.getD k 0*2^s) % 4294967296)):=by
 have hl:=H.len;obtain⟨h1,h2,h3⟩:=aA8 ha hs (by omega) H.oz H.c1 H.eq;exact⟨h1,by rw[jI];exact hl,H.od.set _ (Nat.mod_lt _ (by decide)),H.oz.put,h2,h3⟩
def aI6(v n:Nat)(w:Wo)(e:Ending)(w':Wo):Prop:=Below w.heap.size w w'/\∃g l,e=.returned (.slice (some ⟨g,0,none⟩) n n)/\w.heap.size<=g/\aD w' g 175 (aY l).toArray/\Wd l/\wv l=v/\l.length=n
theorem shW(A:OA)(n c:Nat)(s:Nat)(a:List Nat)(w:Wo)(ha:gF w w.heap.size A n a)(O3:Wd a)(hn:n<=35184372088832)(hs:s<=31):Calls Tryz.prog 163 #[.slice A n c,.int .i64 (s:Int)] w (aI6 (wv a*2^s) (n+1) w):=by
 obtain⟨HA,K3,vR⟩:=eR ha O3 ha.len;clear ha O3;have tO:∀w:World,(Instr.makeSlice 83 (.int .i64 ((n:Int)+1)) (.int .i64 ((n:Int)+1))).run Tryz.prog w=.ok (.slice (some ⟨w.heap.size,0,none⟩) (n+1) (n+1)) (w.alloc (.cells (aY (List.replicate (n+1) 0)).toArray 175)):=fun w=>mA (n+1) (by omega) w;have HK:=lH ((Below.refl w.heap.size w).alloc lR (.cells (aY (List.replicate (n+1) 0)).toArray 175));have HG:=lH (aD.new w 175 (aY (List.replicate (n+1) 0)).toArray);go_enter Tryz.func163,Tryz.ntmps163
 go_wp2_with fail
 clear tO;generalize w.alloc (.cells (aY (List.replicate (n+1) 0)).toArray 175)=W at *;generalize hg:w.heap.size=g at *;have kZ:=lH hg;clear hg;have HP:Hid (0<2^s):=lH (Nat.pow_pos (by decide))
 go_loopw [6,15] (fun v6 v15 wr=>∃(k cc:Nat)(out:List Nat),k<=n/\v15=.int .i64 k/\v6=.int .u64 cc/\Below g w wr/\aD wr g 175 (aY out).toArray/\PR a n s k cc out) (fun _ v15 _=>n-(intOf v15).toNat)
 case atStart=>exact⟨0,0,_,by omega,rfl,rfl,HK.o,HG.o,⟨by simp,lX _,nJ _ _,HP.o,by rw[lW];simp[wv]⟩⟩
 case round=>
  clear HK HG;obtain⟨k,cc,out,hk,rfl,rfl,hb,hg,hI⟩:=hrel;obtain⟨HK,HG,HI⟩:=eR hb hg hI;clear hb hg hI;have M_:=HI.o.c1;have xY:=HG.o.lt;have XU:=HG.o.frozen;by_cases aR:k<n
  ·obtain⟨ab,ao,sX,iI⟩:=HA.o.form (by omega)
   subst sX;have CO:=(HA.o.lift HK.o (by omega)).at_ aR;have M9:=bF HG.o (i:=k) (by rw[HI.o.len];omega);have HN:=lH (HI.o.step K3.o hs aR);have hx:=K3.o.getD k;obtain⟨x,D_⟩:∃x,a.getD k 0=x:=⟨_,rfl⟩;rw[D_] at CO hx HN;obtain⟨z,mK⟩:∃z,out.getD k 0=z:=⟨_,rfl⟩;rw[mK] at M9;clear D_ mK;have JJ:ab<wr.heap.size:=by omega
   have iM:(k:Int)<(n:Int):=by omega
   have HOR:=lH (VT cc x s M_ HN.o.1);have e_:=lH HN.o.2;clear M_;(go_wp2_with fail);rw[HOR.o];generalize cc+x*2^s=t at *;go_roundw
   case rel=>exact⟨k+1,_,_,by omega,by go_num,aM (by omega),HK.o.setCell lR _,dP HG.o (by omega),e_.o⟩
   case measure=>simp[intOf];omega
  ·have pP:k=n:=by omega
   subst pP;have M9:=bF HG.o (i:=k) (by rw[HI.o.len];omega);obtain⟨z,mK⟩:∃z,out.getD k 0=z:=⟨_,rfl⟩;rw[mK] at M9;clear mK;have aM4:cc<4294967296:=jJ M_ (eN (Nat.pow_le_pow_right (by decide) hs) (by decide));have HE:Hid (wv (out.set k cc)=wv a*2^s):=lH (by
    rw[PQ (v:=wv a*2^s) (by rw[HI.o.len];omega) HI.o.oz];rw[HI.o.eq,oP (by rw[vR.o];exact lR)])
   have HW:Hid (Wd (out.set k cc)):=lH (HI.o.od.set _ aM4);have G0:Hid ((out.set k cc).length=k+1):=lH (by rw[jI];exact HI.o.len);have g1:(k:Int)<(k:Int)+1:=by omega
   clear M_;(go_wp2_with fail);go_ret;exact⟨by rw[kZ.o];exact HK.o.setCell lR _,g,_,rfl,Nat.le_of_eq kZ.o,dP HG.o rfl,HW.o,HE.o,G0.o⟩
structure ZX (a b:List Nat) (n m i:Nat) (out:List Nat):Prop where
 len:out.length=n+m
 od:Wd out
 oz:Zf out (i+m)
 eq:wv out=wv (a.take i)*wv b
structure B8 (a b:List Nat) (n m i x k cc:Nat) (out:List Nat):Prop where
 len:out.length=n+m
 od:Wd out
 oz:Zf out (i+m)
 cl:cc<4294967296
 eq:wv out+cc*BB (i+k)=wv (a.take i)*wv b+x*wv (b.take k)*BB i
theorem B8.step{b:List Nat}(H:B8 a b n m i x k cc out)(hb:Wd b)(hx:x<4294967296)(hi:i<n)(hk:k<m):cc+out.getD (i+k) 0+x*b.getD k 0<18446744073709551616/\B8 a b n m i x (k+1) ((cc+out.getD (i+k) 0+x*b.getD k 0) / 4294967296) (out.set (i+k) ((cc+out.getD (i+k) 0+x*b.getD k 0) % 4294967296)):=by
 have hl:=H.len;obtain⟨h1,h2,h3⟩:=WF hb H.od hx H.cl (by omega) H.eq;exact⟨h1,by rw[jI];exact hl,H.od.set _ (Nat.mod_lt _ (by decide)),H.oz.set (by omega),h2,h3⟩
theorem B8.done{b:List Nat}(H:B8 a b n m i (a.getD i 0) m cc out)(nG:b.length=m)(hi:i<n):ZX a b n m (i+1) (out.set (i+m) cc):=by
 have hl:=H.len;have he:=H.eq;refine⟨by rw[jI];exact hl,H.od.set _ H.cl,?_,?_⟩
 ·have:=H.oz.put (x:=cc)
  rwa[show i+m+1=i+1+m from by omega] at this
 ·subst nG
  rw[oP lR] at he;exact aBy (by omega) H.oz he
theorem aA9(y z:Int):wC (decide (y<0) != decide (z<0)) (y.natAbs*z.natAbs)=y*z:=by
 rw[<-Int.natAbs_mul];unfold wC;rcases Int.lt_trichotomy y 0 with hy | hy | hy
 ·rcases Int.lt_trichotomy z 0 with hz | hz | hz
  ·have:=Int.mul_pos_of_neg_of_neg hy hz
   rw[if_neg (by simp[hy,hz])];omega
  ·subst hz;simp
  ·have:=Int.mul_neg_of_neg_of_pos hy hz
   rw[if_pos (by simp[hy];omega)];omega
 ·subst hy;simp
 ·rcases Int.lt_trichotomy z 0 with hz | hz | hz
  ·have:=Int.mul_neg_of_pos_of_neg hy hz
   rw[if_pos (by simp[hz];omega)];omega
  ·subst hz;simp
  ·have:=Int.mul_pos hy hz
   rw[if_neg (by simp;omega)];omega
theorem gC(y z:Int)(b1:Bool)(A:OA)(n c:Nat)(b2:Bool)(B:OA)(m d:Nat)(w:Wo)(h1:bE w w.heap.size y b1 A n c)(h2:bE w w.heap.size z b2 B m d)(GT:n+m<=35184372088832):Calls Tryz.prog 96 #[.agg #[.bool b1,.slice A n c],.agg #[.bool b2,.slice B m d]] w (SV (y*z) w):=by
 have cI:Hid (Below w.heap.size w ((((w.alloc (aK b1 A n c)).alloc (aK b2 B m d)).alloc bU).alloc (.cells (aY (List.replicate (n+m) 0)).toArray 175))):=lH (((bA).alloc (by simp) _).alloc (by simp;omega) _ |>.alloc (by simp;omega) _);have dE:Hid (aD ((((w.alloc (aK b1 A n c)).alloc (aK b2 B m d)).alloc bU).alloc (.cells (aY (List.replicate (n+m) 0)).toArray 175)) w.heap.size 85 #[.bool b1,.slice A n c]):=lH ((((aD.new w _ _).alloc _).alloc _).alloc _);have eT:Hid (aD ((((w.alloc (aK b1 A n c)).alloc (aK b2 B m d)).alloc bU).alloc (.cells (aY (List.replicate (n+m) 0)).toArray 175)) (w.heap.size+1) 85 #[.bool b2,.slice B m d]):=lH (((aD.new_ (by simp)).alloc _).alloc _);have HR:Hid (aD ((((w.alloc (aK b1 A n c)).alloc (aK b2 B m d)).alloc bU).alloc (.cells (aY (List.replicate (n+m) 0)).toArray 175)) (w.heap.size+1+1) 85 #[.bool false,.slice none 0 0]):=lH ((aD.new_ (by simp)).alloc _);have HG:Hid (aD ((((w.alloc (aK b1 A n c)).alloc (aK b2 B m d)).alloc bU).alloc (.cells (aY (List.replicate (n+m) 0)).toArray 175)) (w.heap.size+1+1+1) 175 (aY (List.replicate (n+m) 0)).toArray):=lH (aD.new_ (by simp));have HA:Hid (gF ((((w.alloc (aK b1 A n c)).alloc (aK b2 B m d)).alloc bU).alloc (.cells (aY (List.replicate (n+m) 0)).toArray 175)) w.heap.size A n (gX y.natAbs)):=lH (h1.rd.below cI.o lR);have HB:Hid (gF ((((w.alloc (aK b1 A n c)).alloc (aK b2 B m d)).alloc bU).alloc (.cells (aY (List.replicate (n+m) 0)).toArray 175)) w.heap.size B m (gX z.natAbs)):=lH (h2.rd.below cI.o lR);have tL:=lH h1.eb;have N9:=lH h2.eb;have vR:Hid ((gX y.natAbs).length=n):=lH h1.en.symm;have kB:Hid ((gX z.natAbs).length=m):=lH h2.en.symm;have HWA:Hid (wv (gX y.natAbs)=y.natAbs):=lH (cU _);have TY:Hid (wv (gX z.natAbs)=z.natAbs):=lH (cU _);have K3:=lH (fA y.natAbs);have DJ:=lH (fA z.natAbs);generalize gX y.natAbs=a at *;generalize gX z.natAbs=b at *;clear h1 h2;have tO:∀w:World,(Instr.makeSlice 83 (.int .i64 ((n:Int)+(m:Int))) (.int .i64 ((n:Int)+(m:Int)))).run Tryz.prog w=.ok (.slice (some ⟨w.heap.size,0,none⟩) (n+m) (n+m)) (w.alloc (.cells (aY (List.replicate (n+m) 0)).toArray 175)):=fun w=>by
  have:=mA (n+m) (by omega) w;rwa[Int.natCast_add] at this
 go_enter Tryz.func96,Tryz.ntmps96
 go_upto_region 2 with fail
 clear tO;generalize ((((w.alloc (aK b1 A n c)).alloc (aK b2 B m d)).alloc bU).alloc (.cells (aY (List.replicate (n+m) 0)).toArray 175))=W at *;generalize hg:w.heap.size=g at *;have kZ:=lH hg;clear hg;obtain⟨p0,p1,pl⟩:=dE.o.b2;obtain⟨q0,q1,ql⟩:=eT.o.b2;have hG1:=HG.o.lt;have TA:=lH (Below.refl (g+1+1+1) W)
 go_wp2_with fail
 clear p0 p1 q0 q1
 go_loopw [22] (fun v22 wr=>∃(i:Nat)(out:List Nat),i<=n/\v22=.int .i64 i/\Below (g+1+1+1) W wr/\aD wr (g+1+1+1) 175 (aY out).toArray/\ZX a b n m i out) (fun v22 _=>n-(intOf v22).toNat)
 case atStart=>exact⟨0,_,by omega,rfl,TA.o,HG.o,⟨by simp,lX _,nJ _ _,by rw[lW];simp[wv]⟩⟩
 case round=>
  clear TA HG;obtain⟨i,out,hi,rfl,hb,hg,hI⟩:=hrel;obtain⟨HK,HG,HI⟩:=eR hb hg hI;clear hb hg hI;have xY:=HG.o.lt;have XU:=HG.o.frozen;have p0:=(dE.o.below HK.o (by omega)).cell 0;have p1:=(dE.o.below HK.o (by omega)).cell 1;have q0:=(eT.o.below HK.o (by omega)).cell 0;have q1:=(eT.o.below HK.o (by omega)).cell 1;have pl2:g<wr.heap.size:=by omega
  have ql2:g+1<wr.heap.size:=by omega
  by_cases aR:i<n
  ·obtain⟨ab,ao,sX,iI⟩:=HA.o.form (by omega)
   subst sX;have CO:=((HA.o.more (show g<=g+1+1+1 by omega)).lift HK.o (by omega)).at_ aR;have hx:=K3.o.getD i;have HDN:=lH (fun(cc:Nat)(out:List Nat) (H:B8 a b n m i (a.getD i 0) m cc out)=>H.done kB.o aR);obtain⟨x,D_⟩:∃x,a.getD i 0=x:=⟨_,rfl⟩;rw[D_] at CO hx HDN;clear D_;have JJ:ab<wr.heap.size:=by omega
   have CZ:(i:Int)<(n:Int):=by omega
   (go_wp2_with fail);clear p0 p1 q0 q1 CO XU;obtain⟨wo,rfl⟩:∃wo:World,wo=wr:=⟨_,rfl⟩
   go_loopw [8,30] (fun v8 v30 wr=>∃(k cc:Nat)(out:List Nat),k<=m/\v30=.int .i64 k/\v8=.int .u64 cc/\Below (g+1+1+1) W wr/\aD wr (g+1+1+1) 175 (aY out).toArray/\B8 a b n m i x k cc out) (fun _ v30 _=>m-(intOf v30).toNat)
   case atStart=>exact⟨0,0,_,by omega,rfl,rfl,HK.o,HG.o,⟨HI.o.len,HI.o.od,HI.o.oz,by decide,by rw[HI.o.eq];simp[wv]⟩⟩
   case round=>
    clear HK HG HI;obtain⟨k,cc,out,hk,rfl,rfl,hb,hg,hI⟩:=hrel;obtain⟨HK,HG,HI⟩:=eR hb hg hI;clear hb hg hI;have xY:=HG.o.lt;have XU:=HG.o.frozen;have uV:=HI.o.cl;by_cases hlk:k<m
    ·obtain⟨bb,bo,JL,pY⟩:=HB.o.form (by omega)
     subst JL;have zK:=((HB.o.more (show g<=g+1+1+1 by omega)).lift HK.o (by omega)).at_ hlk;have hy:=DJ.o.getD k;have hz:=HI.o.od.getD (i+k);have M9:=bF HG.o (i:=i+k) (by rw[HI.o.len];omega);have HN:=lH (HI.o.step DJ.o hx aR hlk);obtain⟨y2,TL⟩:∃y,b.getD k 0=y:=⟨_,rfl⟩;rw[TL] at zK hy HN;obtain⟨z2,mK⟩:∃y,out.getD (i+k) 0=y:=⟨_,rfl⟩;rw[mK] at M9 hz HN;clear TL mK;have XF:x*y2<=4294967295*4294967295:=Nat.mul_le_mul (by omega) (by omega);have XM:IntKind.u64.wrap ((x:Int)*(y2:Int))=((x*y2:Nat):Int):=by rw[<-Int.natCast_mul];exact Go.IntWalk.u64_in _ (by omega)
     have pG:=HN.o.1;have e_:=lH HN.o.2;clear HN;generalize x*y2=pr at *;have aB0:bb<wr.heap.size:=by omega
     have iM:(k:Int)<(m:Int):=by omega
     have aLY:IntKind.i64.wrap ((i:Int)+(k:Int))=((i+k:Nat):Int):=by rw[<-Int.natCast_add];exact Go.IntWalk.i64_in _ (by omega)
     have aIn:(i:Int)+(k:Int)<(n:Int)+(m:Int):=by omega
     have aMy:((i:Int)+(k:Int)).toNat=i+k:=by omega
     (go_wp2_with fail);go_roundw
     case rel=>exact⟨k+1,_,_,by omega,by go_num,aM (by omega),HK.o.setCell lR _,dP HG.o (by omega),e_.o⟩
     case measure=>simp[intOf];omega
    ·have pP:k=m:=by omega
     subst pP;have HD2:=lH (HDN.o cc out HI.o);have p0:=(dE.o.below HK.o (by omega)).cell 0;have p1:=(dE.o.below HK.o (by omega)).cell 1;have q0:=(eT.o.below HK.o (by omega)).cell 0;have q1:=(eT.o.below HK.o (by omega)).cell 1;have pl2:g<wr.heap.size:=by omega
     have ql2:g+1<wr.heap.size:=by omega
     have hz:=HI.o.od.getD (i+k);have M9:=bF HG.o (i:=i+k) (by rw[HI.o.len];omega);obtain⟨z2,mK⟩:∃y,out.getD (i+k) 0=y:=⟨_,rfl⟩;rw[mK] at M9 hz;clear mK;have aIn:(i:Int)+(k:Int)<(n:Int)+(k:Int):=by omega
     have aMy:((i:Int)+(k:Int)).toNat=i+k:=by omega
     (go_wp2_with fail);clear p0 p1 q0 q1;go_roundw
     case rel=>exact⟨i+1,_,by omega,by go_num,HK.o.setCell lR _,dP HG.o rfl,HD2.o⟩
     case measure=>simp[intOf];omega
  ·have RZ:i=n:=by omega
   subst RZ;have HE:Hid (wv out=y.natAbs*z.natAbs):=lH (by rw[HI.o.eq,oP (by rw[vR.o];exact lR),HWA.o,TY.o]);have G0:Hid (out.length=i+m):=lH HI.o.len;have m9:=lH (HR.o.below HK.o (by omega));have vQ:Hid (Below w.heap.size w wr):=lH (by rw[kZ.o];exact cI.o.trans (HK.o.mono (by omega)));(go_wp2_with fail);clear p0 p1 q0 q1;refine(gU (b1 != b2) (some ⟨g+1+1+1,0,none⟩) (i+m) (i+m) out wr (by have:=mU HG.o;rwa[G0.o] at this) HI.o.od lR (by omega)).mono ?_;rw[HE.o,tL.o,N9.o,aA9];rintro e w2 ⟨k,b9,A9,n9,c9,rfl,h9⟩;have dB:=bX vQ k;have fW:=lH (m9.o.bl k);have H2:=lH h9;have mF:w.heap.size<=g+1+1:=by have:=kZ.o;omega
   clear k h9;obtain⟨z0,z1,zf,zl⟩:=fW.o.e2;(go_wp2_with fail);generalize dO:(w2.setCell ⟨_,0,none⟩ _).setCell ⟨_,1,none⟩ _=W9;have fO:=lH (kX (e:=.returned (.agg #[.bool b9,.slice A9 n9 c9])) dB.o mF fW.o (by simp) (by simp) H2.o rfl);rw[dO] at fO;have eU:Hid (aD W9 _ 85 #[.bool b9,.slice A9 n9 c9]):=lH (by rw[<-dO];exact bD fW.o);clear dO z0 z1 zf zl;obtain⟨q0,q1⟩:=eU.o.a2;exact bodyPost_ret (v:=.agg #[.bool b9,.slice A9 n9 c9]) (by simp[results,Tryz.results96,go_sem,q0,q1]) rfl fO.o
theorem aA_{y:Int}(h:decide (y<0)=decide (z<0)):wC (decide (y<0)) (y.natAbs+z.natAbs)=y+z:=by
 unfold wC;have h2:(y<0)<->(z<0):=by simpa using h
 by_cases hy:y<0
 ·rw[if_pos (by simpa using hy)];omega
 ·rw[if_neg (by simpa using hy)];omega
theorem OG{y:Int}(h:decide (y<0)≠decide (z<0))(FW:z.natAbs<=y.natAbs):wC (decide (y<0)) (y.natAbs-z.natAbs)=y+z:=by
 unfold wC;by_cases hy:y<0<;>by_cases hz:z<0
 ·exact absurd (by simp[hy,hz]) h
 ·rw[if_pos (by simpa using hy)];omega
 ·rw[if_neg (by simpa using hy)];omega
 ·exact absurd (by simp[hy,hz]) h
theorem GC(y z:Int)(b1:Bool)(A:OA)(n c:Nat)(b2:Bool)(B:OA)(m d:Nat)(w:Wo)(h1:bE w w.heap.size y b1 A n c)(h2:bE w w.heap.size z b2 B m d)(hn:n<=35184372088832)(hm:m<=35184372088832):Calls Tryz.prog 97 #[.agg #[.bool b1,.slice A n c],.agg #[.bool b2,.slice B m d]] w (SV (y+z) w):=by
 have he1:=h1.eb;have he2:=h2.eb;have hny:=h1.en;have hmz:=h2.en;have cI:Hid (Below w.heap.size w (((w.alloc (aK b1 A n c)).alloc (aK b2 B m d)).alloc bU)):=lH (((bA).alloc (by simp) _).alloc (by simp;omega) _);have dE:Hid (aD (((w.alloc (aK b1 A n c)).alloc (aK b2 B m d)).alloc bU) w.heap.size 85 #[.bool b1,.slice A n c]):=lH (((aD.new w _ _).alloc _).alloc _);have eT:Hid (aD (((w.alloc (aK b1 A n c)).alloc (aK b2 B m d)).alloc bU) (w.heap.size+1) 85 #[.bool b2,.slice B m d]):=lH ((aD.new_ (by simp)).alloc _);have HR:Hid (aD (((w.alloc (aK b1 A n c)).alloc (aK b2 B m d)).alloc bU) (w.heap.size+1+1) 85 #[.bool false,.slice none 0 0]):=lH (aD.new_ (by simp));have H1:=lH (h1.up cI.o);have H2:=lH (h2.up cI.o);clear h1 h2;have HNY:=lH hny;have HMZ:=lH hmz;clear hny hmz;go_enter Tryz.func97,Tryz.ntmps97
 have mF:w.heap.size<=w.heap.size+1+1:=by omega
 by_cases hb:b1=b2
 ·have Z9:Hid (wC b1 (wv (gX y.natAbs)+wv (gX z.natAbs))=y+z):=lH (by rw[cU,cU,he1];exact aA_ (by rw[<-he1,<-he2,hb]))
  have pY:(b1 == b2)=true:=by simp[hb]
  clear he1 he2 hb;(go_wp2_with fail);generalize (((w.alloc (aK b1 A n c)).alloc (aK b2 B m d)).alloc bU)=W at *;obtain⟨p0,p1,pl⟩:=dE.o.b2;obtain⟨q0,q1,ql⟩:=eT.o.b2;have H1W:Hid (gF W.drew W.drew.heap.size A n (gX y.natAbs)):=lH H1.o.rd;have H2W:Hid (gF W.drew W.drew.heap.size B m (gX z.natAbs)):=lH H2.o.rd;have vQ:=cI;have m9:=HR;clear cI HR;refine rS 8 (fun hHeld=>?_);simp only[oO,List.take_zero];refine d7 [0,1,2,3,4,5] ?_;refine bI 6 (fun K hK=>?_);go_simp;refine(aIW A n c B m d (gX y.natAbs) (gX z.natAbs) W.drew H1W.o H2W.o (fA _) (fA _) (by omega) (by omega)).mono ?_;rintro e w5 ⟨eS,A5,n5,c5,l5,rfl,vK,hd5,CM,hn5,hc5⟩;obtain⟨dK,HR5,DE,HD5⟩:=gO ((aH (Below.refl W.heap.size W)).trans eS) vK CM hd5;clear eS vK CM hd5;go_simp;refine iJ hK dK.o (fun hHeld=>?_);clear hK K;refine bI 7 (fun K hK=>?_);go_simp;refine(gU b1 A5 n5 c5 l5 w5 HR5.o HD5.o hn5 hc5).mono ?_;rw[DE.o,Z9.o];rintro e w6 ⟨eE,b9,A9,n9,c9,rfl,h9⟩;have d6:=bX dK eE;have H9:=lH h9;clear eE h9;go_simp;refine iJ hK d6.o (fun hHeld=>?_);clear hK K;refine fZ ?_;have DI:=lH (vQ.o.tm d6.o);have nE:=lH (m9.o.bl d6.o);clear p0 p1 q0 q1 pl ql;obtain⟨z0,z1,zf,zl⟩:=nE.o.e2;(go_wp2_with fail);generalize dO:(w6.setCell ⟨_,0,none⟩ _).setCell ⟨_,1,none⟩ _=W9;have fO:=lH (kX (e:=.returned (.agg #[.bool b9,.slice A9 n9 c9])) DI.o mF nE.o (by simp) (by simp) H9.o rfl);rw[dO] at fO;have eU:Hid (aD W9 _ 85 #[.bool b9,.slice A9 n9 c9]):=lH (by rw[<-dO];exact bD nE.o);clear dO z0 z1 zf zl;obtain⟨q0,q1⟩:=eU.o.a2;exact bodyPost_ret (v:=.agg #[.bool b9,.slice A9 n9 c9]) (by simp[results,Tryz.results97,go_sem,q0,q1]) rfl fO.o
 ·have pY:(b1 == b2)=false:=by simpa using hb
  have PZ:Hid (decide (y<0)≠decide (z<0)):=lH (by rw[<-he1,<-he2];exact hb);have aOZ:=lH he1;have aOY:=lH he2;clear he1 he2 hb;(go_wp2_with fail);generalize (((w.alloc (aK b1 A n c)).alloc (aK b2 B m d)).alloc bU)=W at *;refine(J_ A n c B m d y.natAbs z.natAbs W H1.o.rd H2.o.rd (by omega) (by omega)).mono ?_;rintro e w4 ⟨⟨r,rfl,hr⟩,nq,rfl⟩;have TS:Below W.heap.size W (W.drewN nq):=aS bR nq;have cR:=bX cI TS;obtain⟨aFk,aJf,HRb,H1b,H2b⟩:=mP (dE.o.bl TS) (eT.o.bl TS) (HR.o.bl TS) (H1.o.up TS) (H2.o.up TS);clear TS cI dE eT HR H1 H2;have cI:=cR;have dE:=aFk;have eT:=aJf;have HR:=HRb;have H1:=H1b;have H2:=H2b;generalize W.drewN nq=V at *;obtain⟨p0,p1,pl⟩:=dE.o.b2;obtain⟨q0,q1,ql⟩:=eT.o.b2;by_cases jH:r<0
  ·have P3:Hid (y.natAbs<=z.natAbs):=lH (qY (hr.1.1 jH))
   have hmn:n<=m:=by rw[HNY.o,HMZ.o];exact g_ P3.o
   have Z9:Hid (wC b2 (wv (gX z.natAbs)-wv (gX y.natAbs))=y+z):=lH (by
    rw[cU,cU,aOY.o,Int.add_comm];exact OG (fun h=>PZ.o h.symm) P3.o)
   have MW:decide (0<=r)=false:=by simpa using jH
   clear hr jH;(go_wp2_with fail);have H1W:Hid (gF V.drew V.drew.heap.size A n (gX y.natAbs)):=lH H1.o.rd;have H2W:Hid (gF V.drew V.drew.heap.size B m (gX z.natAbs)):=lH H2.o.rd;have vQ:=cI;have m9:=HR;refine rS 8 (fun hHeld=>?_);simp only[oO,List.take_zero];refine d7 [0,1,2,3,4,5] ?_;refine bI 6 (fun K hK=>?_);go_simp;refine(aCT B m d A n c (gX z.natAbs) (gX y.natAbs) V.drew H2W.o H1W.o (fA _) (fA _) (by omega) (by omega) (by rw[cU,cU];exact P3.o)).mono ?_;rintro e w5 ⟨eS,A5,n5,c5,l5,rfl,vK,hd5,CM,hn5,hc5⟩;obtain⟨dK,HR5,DE,HD5⟩:=gO ((aH (Below.refl V.heap.size V)).trans eS) vK CM hd5;clear eS vK CM hd5;go_simp;refine iJ hK dK.o (fun hHeld=>?_);clear hK K;refine bI 7 (fun K hK=>?_);go_simp;refine(gU b2 A5 n5 c5 l5 w5 HR5.o HD5.o hn5 hc5).mono ?_;rw[DE.o,Z9.o];rintro e w6 ⟨eE,b9,A9,n9,c9,rfl,h9⟩;have d6:=bX dK eE;have H9:=lH h9;clear eE h9;go_simp;refine iJ hK d6.o (fun hHeld=>?_);clear hK K;refine fZ ?_;have DI:=lH (vQ.o.tm d6.o);have nE:=lH (m9.o.bl d6.o);clear p0 p1 q0 q1 pl ql;obtain⟨z0,z1,zf,zl⟩:=nE.o.e2;(go_wp2_with fail);generalize dO:(w6.setCell ⟨_,0,none⟩ _).setCell ⟨_,1,none⟩ _=W9;have fO:=lH (kX (e:=.returned (.agg #[.bool b9,.slice A9 n9 c9])) DI.o mF nE.o (by simp) (by simp) H9.o rfl);rw[dO] at fO;have eU:Hid (aD W9 _ 85 #[.bool b9,.slice A9 n9 c9]):=lH (by rw[<-dO];exact bD nE.o);clear dO z0 z1 zf zl;obtain⟨q0,q1⟩:=eU.o.a2;exact bodyPost_ret (v:=.agg #[.bool b9,.slice A9 n9 c9]) (by simp[results,Tryz.results97,go_sem,q0,q1]) rfl fO.o
  ·have P3:Hid (z.natAbs<=y.natAbs):=lH (Nat.le_of_not_lt fun h=>jH (hr.1.2 h))
   have hmn:m<=n:=by rw[HNY.o,HMZ.o];exact g_ P3.o
   have Z9:Hid (wC b1 (wv (gX y.natAbs)-wv (gX z.natAbs))=y+z):=lH (by
    rw[cU,cU,aOZ.o];exact OG PZ.o P3.o)
   have MW:0<=r:=by omega
   clear hr jH;(go_wp2_with fail);have H1W:Hid (gF V.drew V.drew.heap.size A n (gX y.natAbs)):=lH H1.o.rd;have H2W:Hid (gF V.drew V.drew.heap.size B m (gX z.natAbs)):=lH H2.o.rd;have vQ:=cI;have m9:=HR;refine rS 8 (fun hHeld=>?_);simp only[oO,List.take_zero];refine d7 [0,1,2,3,4,5] ?_;refine bI 6 (fun K hK=>?_);go_simp;refine(aCT A n c B m d (gX y.natAbs) (gX z.natAbs) V.drew H1W.o H2W.o (fA _) (fA _) (by omega) (by omega) (by rw[cU,cU];exact P3.o)).mono ?_;rintro e w5 ⟨eS,A5,n5,c5,l5,rfl,vK,hd5,CM,hn5,hc5⟩;obtain⟨dK,HR5,DE,HD5⟩:=gO ((aH (Below.refl V.heap.size V)).trans eS) vK CM hd5;clear eS vK CM hd5;go_simp;refine iJ hK dK.o (fun hHeld=>?_);clear hK K;refine bI 7 (fun K hK=>?_);go_simp;refine(gU b1 A5 n5 c5 l5 w5 HR5.o HD5.o hn5 hc5).mono ?_;rw[DE.o,Z9.o];rintro e w6 ⟨eE,b9,A9,n9,c9,rfl,h9⟩;have d6:=bX dK eE;have H9:=lH h9;clear eE h9;go_simp;refine iJ hK d6.o (fun hHeld=>?_);clear hK K;refine fZ ?_;have DI:=lH (vQ.o.tm d6.o);have nE:=lH (m9.o.bl d6.o);clear p0 p1 q0 q1 pl ql;obtain⟨z0,z1,zf,zl⟩:=nE.o.e2;(go_wp2_with fail);generalize dO:(w6.setCell ⟨_,0,none⟩ _).setCell ⟨_,1,none⟩ _=W9;have fO:=lH (kX (e:=.returned (.agg #[.bool b9,.slice A9 n9 c9])) DI.o mF nE.o (by simp) (by simp) H9.o rfl);rw[dO] at fO;have eU:Hid (aD W9 _ 85 #[.bool b9,.slice A9 n9 c9]):=lH (by rw[<-dO];exact bD nE.o);clear dO z0 z1 zf zl;obtain⟨q0,q1⟩:=eU.o.a2;exact bodyPost_ret (v:=.agg #[.bool b9,.slice A9 n9 c9]) (by simp[results,Tryz.results97,go_sem,q0,q1]) rfl fO.o
theorem aA5(y z:Int)(b1:Bool)(A:OA)(n c:Nat)(b2:Bool)(B:OA)(m d:Nat)(w:Wo)(h1:bE w w.heap.size y b1 A n c)(h2:bE w w.heap.size z b2 B m d)(hn:n<=35184372088832)(hm:m<=35184372088832):Calls Tryz.prog 145 #[.agg #[.bool b1,.slice A n c],.agg #[.bool b2,.slice B m d]] w (SV (y-z) w):=by
 have HMZ:=lH h2.en;have cI:Hid (Below w.heap.size w (((w.alloc (aK b1 A n c)).alloc (aK b2 B m d)).alloc bU)):=lH (((bA).alloc (by simp) _).alloc (by simp;omega) _);have dE:Hid (aD (((w.alloc (aK b1 A n c)).alloc (aK b2 B m d)).alloc bU) w.heap.size 85 #[.bool b1,.slice A n c]):=lH (((aD.new w _ _).alloc _).alloc _);have eT:Hid (aD (((w.alloc (aK b1 A n c)).alloc (aK b2 B m d)).alloc bU) (w.heap.size+1) 85 #[.bool b2,.slice B m d]):=lH ((aD.new_ (by simp)).alloc _);have HR:Hid (aD (((w.alloc (aK b1 A n c)).alloc (aK b2 B m d)).alloc bU) (w.heap.size+1+1) 85 #[.bool false,.slice none 0 0]):=lH (aD.new_ (by simp));have H1:=lH (h1.up cI.o);have H2:=lH (h2.up cI.o);clear h1 h2;go_enter Tryz.func145,Tryz.ntmps145
 have mF:w.heap.size<=w.heap.size+1+1:=by omega
 go_wp2_with fail
 generalize (((w.alloc (aK b1 A n c)).alloc (aK b2 B m d)).alloc bU)=W at *;obtain⟨p0,p1,pl⟩:=dE.o.b2;obtain⟨q0,q1,ql⟩:=eT.o.b2;have HH1:Hid (bE W.drew W.drew.heap.size y b1 A n c):=lH (H1.o.up (aH bR));have HH2:Hid (bE W.drew W.drew.heap.size z b2 B m d):=lH (H2.o.up (aH bR));refine rS 4 (fun hHeld=>?_);simp only[oO,List.take_zero];refine d7 [0,1] ?_;refine bI 2 (fun K hK=>?_);go_simp;refine(zH z b2 B m d W.drew HH2.o).mono ?_;rintro e w5 ⟨eS,b5,A5,n5,c5,rfl,h5⟩;have dK:=lH ((aH (Below.refl W.heap.size W)).trans eS);have H5:=lH h5;have LH:Hid (n5=m):=lH (by rw[h5.en,Int.natAbs_neg,<-HMZ.o]);have aOT:=lH (HH1.o.up eS);clear eS h5;go_simp;refine iJ hK dK.o (fun hHeld=>?_);clear hK K;refine bI 3 (fun K hK=>?_);go_simp;refine(GC y (-z) b1 A n c b5 A5 n5 c5 w5 aOT.o H5.o hn (by have:=LH.o;omega)).mono ?_;rw[show y+-z=y-z from by omega];rintro e w6 ⟨eE,b9,A9,n9,c9,rfl,h9⟩;have d6:=bX dK eE;have H9:=lH h9;clear eE h9;go_simp;refine iJ hK d6.o (fun hHeld=>?_);clear hK K;refine fZ ?_;have DI:=lH (cI.o.tm d6.o);have nE:=lH (HR.o.bl d6.o);clear p0 p1 q0 q1 pl ql;obtain⟨z0,z1,zf,zl⟩:=nE.o.e2
 go_wp2_with fail
 generalize dO:(w6.setCell ⟨_,0,none⟩ _).setCell ⟨_,1,none⟩ _=W9;have fO:=lH (kX (e:=.returned (.agg #[.bool b9,.slice A9 n9 c9])) DI.o mF nE.o (by simp) (by simp) H9.o rfl);rw[dO] at fO;have eU:Hid (aD W9 _ 85 #[.bool b9,.slice A9 n9 c9]):=lH (by rw[<-dO];exact bD nE.o);clear dO z0 z1 zf zl;obtain⟨q0,q1⟩:=eU.o.a2;exact bodyPost_ret (v:=.agg #[.bool b9,.slice A9 n9 c9]) (by simp[results,Tryz.results145,go_sem,q0,q1]) rfl fO.o
theorem aCd(y z:Int)(b1:Bool)(A:OA)(n c:Nat)(b2:Bool)(B:OA)(m d:Nat)(w:Wo)(h1:bE w w.heap.size y b1 A n c)(h2:bE w w.heap.size z b2 B m d)(hn:n<=35184372088832)(hm:m<=35184372088832):Calls Tryz.prog 112 #[.agg #[.bool b1,.slice A n c],.agg #[.bool b2,.slice B m d]] w fun e w'=>e=.returned (.int .i64 (y-z).sign)/\Below w.heap.size w w':=by
 have cI:Hid (Below w.heap.size w ((w.alloc (aK b1 A n c)).alloc (aK b2 B m d))):=lH ((bA).alloc (by simp) _);have dE:Hid (aD ((w.alloc (aK b1 A n c)).alloc (aK b2 B m d)) w.heap.size 85 #[.bool b1,.slice A n c]):=lH ((aD.new w _ _).alloc _);have eT:Hid (aD ((w.alloc (aK b1 A n c)).alloc (aK b2 B m d)) (w.heap.size+1) 85 #[.bool b2,.slice B m d]):=lH (aD.new_ (by simp));have H1:=lH (h1.up cI.o);have H2:=lH (h2.up cI.o);clear h1 h2;go_enter Tryz.func112,Tryz.ntmps112
 go_wp2_with fail
 generalize ((w.alloc (aK b1 A n c)).alloc (aK b2 B m d))=W at *;refine(aA5 y z b1 A n c b2 B m d W H1.o H2.o hn hm).mono ?_;rintro e w5 ⟨eS,b5,A5,n5,c5,rfl,h5⟩;have dK:=bX cI eS;have H5:=lH h5;clear eS h5
 go_wp2_with fail
 refine(wV (y-z) b5 A5 n5 c5 w5 H5.o).mono ?_;rintro e w6 ⟨rfl,eE⟩;have d6:=bX dK eE;clear eE
 go_wp2_with fail
 go_ret;exact⟨rfl,d6.o⟩
structure aNG (x s:Nat):Prop where
 le:s<=31
 lo:2147483648<=x*2^s
 hi:x*2^s<4294967296
theorem KJ:∀(x:Nat),0<x->x<18446744073709551616->1<=Lib.bitLen x/\2^(Lib.bitLen x-1)<=x/\x<2^Lib.bitLen x:=by
 intro x
 induction x using Nat.strongRecOn with
 | ind x ih=>
  intro h0 h1;have hh:=Lib.bitLen_half x (by omega) h1;by_cases hx:x=1
  ·subst hx
   have e:Lib.bitLen (1 / 2)=0:=by decide
   rw[e] at hh;rw[hh];decide
  ·obtain⟨g1,g2,g3⟩:=ih (x / 2) (by omega) (by omega) (by omega)
   rw[hh];generalize Lib.bitLen (x / 2)=L at *;obtain⟨k,rfl⟩:∃k,L=k+1:=⟨L-1,by omega⟩;rw[show 1+(k+1)-1=k+1 from by omega,show 1+(k+1)=k+2 from by omega];rw[Nat.add_sub_cancel] at g2;rw[Nat.pow_succ] at g3;refine⟨by omega,?_,?_⟩
   ·rw[Nat.pow_succ];omega
   ·rw[Nat.pow_succ,Nat.pow_succ];omega
theorem aD9(x:Nat)(w:Wo)(h0:0<x)(h1:x<4294967296):Calls Tryz.prog 162 #[.int .u32 (x:Int)] w fun e w'=>(∃s:Nat,e=.returned (.int .i64 (s:Int))/\aNG x s)/\w=w':=by
 refine(Tryz.bits_LeadingZeros32 (x:Int) w (by omega) (by omega)).mono ?_;rintro e w' ⟨rfl,rfl⟩;rw[oL];obtain⟨g1,g2,g3⟩:=KJ x h0 (by omega);have FW:Lib.bitLen x<=32:=Lib.bitLen_le x 32 (by decide) h1;generalize Lib.bitLen x=L at *;refine⟨⟨32-L,aQ (by omega),⟨by omega,?_,?_⟩⟩,rfl⟩
 ·have:2^(L-1)*2^(32-L)=2147483648:=by rw[<-Nat.pow_add,show L-1+(32-L)=31 from by omega]
  have:=Nat.mul_le_mul_right (2^(32-L)) g2;omega
 ·have:2^L*2^(32-L)=4294967296:=by rw[<-Nat.pow_add,show L+(32-L)=32 from by omega]
  have:=(Nat.mul_lt_mul_right (a:=2^(32-L)) (Nat.pow_pos (by decide))).2 g3;omega
def aKu(x y:Nat)(w:Wo)(e:Ending)(w':Wo):Prop:=Below w.heap.size w w'/\∃A n c l B m d l2,e=.returned (.tuple #[.slice A n c,.slice B m d])/\(gF w' w'.heap.size A n l/\Wd l/\wv l=x / y/\n<=c/\c<=9223372036854775807)/\(gF w' w'.heap.size B m l2/\Wd l2/\wv l2=x % y/\m<=d/\d<=9223372036854775807)/\n<=35184372088833/\m<=35184372088832
theorem J1(A:OA)(n c:Nat)(B:OA)(m d:Nat)(x y:Nat)(w:Wo)(hx:gF w w.heap.size A n (gX x))(hy:gF w w.heap.size B m (gX y))(uP:0<y)(GU:n<=c)(JI:c<=9223372036854775807)(hn:n<=35184372088832)(hm:m<=35184372088832):Calls Tryz.prog 147 #[.slice A n c,.slice B m d] w (aKu x y w):=by
 have HX:=lH hx;have HY:=lH hy;have Z1:Hid (cE x=n):=lH hx.len;have TX:Hid (cE y=m):=lH hy.len;have MZ:0<m:=by rw[<-TX.o,gV (by omega)];omega
 clear hx hy;go_enter Tryz.func147,Tryz.ntmps147
 go_wp2_with fail
 refine(J_ A n c B m d x y w HX.o HY.o (by omega) (by omega)).mono ?_;rintro e w1 ⟨⟨r,rfl,hr⟩,nq,rfl⟩;have TS:Below w.heap.size w (w.drewN nq):=aS bR nq;obtain⟨cR,dE,pD⟩:=eR TS (HX.o.up TS) (HY.o.up TS);clear TS HX HY;generalize w.drewN nq=v at *;by_cases jH:r<0
 ·have rM:Hid (x<y):=lH (hr.1.1 jH)
  clear hr;(go_wp2_with fail);go_ret2;exact⟨cR.o,none,0,0,[],A,n,c,gX x,rfl,⟨t7 _ _ _,UA,by rw[Nat.div_eq_of_lt rM.o];rfl,lR,by decide⟩,⟨dE.o,fA _,by rw[Nat.mod_eq_of_lt rM.o,cU],GU,JI⟩,by omega,by omega⟩
 ·have P3:Hid (y<=x):=lH (Nat.le_of_not_lt fun h=>jH (hr.1.2 h))
  have MW:0<=r:=by omega
  clear hr jH;obtain⟨bb,bo,JL,pY⟩:=pD.o.form MZ;subst JL;by_cases RY:m=1
  ·subst RY
   have aEc:y<4294967296:=by
    have:=kH y;rw[TX.o] at this;exact this
   have HD0:Hid ((gX y).getD 0 0=y):=lH (by
    rw[kI (by omega),Nat.mod_eq_of_lt aEc];rfl)
   have zK:=pD.o.at_ (i:=0) (by omega);rw[HD0.o,Nat.add_zero] at zK;(go_wp2_with fail);refine(aCV A n c y (gX x) v dE.o (fA _) hn uP aEc).mono ?_;rw[cU];rintro e w2 ⟨bV,g2,n2,l2,rfl,uS,R5,jG,LA,-⟩;have dB:=bX cR bV;obtain⟨qU,yQ,HD2⟩:=eR uS jG R5;have hml:x % y<4294967296:=Nat.lt_trans (Nat.mod_lt _ uP) aEc;obtain⟨t,ht⟩:∃t,x % y=t:=⟨_,rfl⟩;have HT:=lH ht;rw[ht] at hml ⊢;have rN:=lH ((Below.refl w2.heap.size w2).alloc lR (.cells #[.int .u32 (t:Int)] 175));have fW:Hid (aD (w2.alloc (.cells #[.int .u32 (t:Int)] 175)) w2.heap.size 175 (aY [t]).toArray):=lH (aD.new w2 _ _);clear bV uS jG R5 ht zK MW;(go_wp2_with fail);go_ret2;exact⟨dB.o.tm rN.o,_,n2,n2,l2,_,1,1,[t],rfl,⟨qU.o.up rN.o,HD2.o,yQ.o,lR,by omega⟩,⟨mU fW.o,fun z hz=>by rw[List.mem_singleton.1 hz];exact hml,by rw[HT.o];simp[wv],lR,by decide⟩,by omega,by omega⟩
  ·have TP:2<=m:=by omega
   have hmb:((m:Int) == 1)=false:=by simp;omega
   have HTP:Hid (0<(gX y).getD (m-1) 0/\(gX y).getD (m-1) 0<4294967296):=lH ⟨by
    have h:=(aBt y).2;have hl:(gX y).length=m:=TX.o;rw[List.getLast?_eq_getElem?,hl,jP (by omega)] at h;rw[dQ,jP (by omega)];simp only[Option.getD_some];refine Nat.pos_of_ne_zero fun e=>h (by rw[e])
    ,(fA y).getD _⟩
   have zK:=pD.o.at_ (i:=m-1) (by omega);obtain⟨bt,hbt⟩:∃t,(gX y).getD (m-1) 0=t:=⟨_,rfl⟩;have HBT:=lH hbt;rw[hbt] at zK HTP;obtain⟨EA,rG⟩:=HTP.o;have g1:(1:Int)<=(m:Int):=by omega
   have g4:((m:Int)-1).toNat=m-1:=by omega
   have g5:(m:Int)-1<(m:Int):=by omega
   have hmI:(m:Int)<=35184372088832:=by omega
   clear hbt;(go_wp2_with fail);clear zK;refine(aD9 bt v EA rG).mono ?_;rintro e w2 ⟨⟨s,rfl,hs⟩,rfl⟩;have HS:=lH hs;have aBP:=hs.le;clear hs EA rG g1 g4 g5;(go_wp2_with fail);have aJg:Hid (gF v.drew v.drew.heap.size A n (gX x)):=lH dE.o;have aJe:Hid (gF v.drew v.drew.heap.size (some ⟨bb,bo,none⟩) m (gX y)):=lH pD.o;have aMj:(m:Int)<=(m:Int)+1:=by omega
   refine rS 10 (fun hHeld=>?_);simp only[oO,List.take_zero];refine d7 [0,1,3,4,6,7] ?_;refine bI 2 (fun K hK=>?_);go_simp;refine(shW A n c s (gX x) v.drew aJg.o (fA _) hn aBP).mono ?_;rw[cU];rintro e w3 ⟨eF,gu,us,rfl,hgu,hu,hud,RT,hul⟩;have gY:=lH ((aH (Below.refl v.heap.size v)).trans eF);have HU3:=lH hu;have HUP:Hid (Wd us/\wv us=x*2^s/\us.length=n+1):=lH ⟨hud,RT,hul⟩;have aME:v.heap.size<=gu:=hgu;have HY3:=lH (aJe.o.up eF);clear eF hu hud RT hul hgu;go_simp;refine iJ hK gY.o (fun hHeld=>?_);clear hK K;refine bI 5 (fun K hK=>?_);go_simp;refine(shW (some ⟨bb,bo,none⟩) m d s (gX y) w3 HY3.o (fA _) hm aBP).mono ?_;rw[cU];rintro e w4 ⟨h_,gv,vs,rfl,hgv,nF,hvd,hvv,TM⟩;have bH:=bX gY h_;have LE:=lH nF;have HVP:Hid (Wd vs/\wv vs=y*2^s/\vs.length=m+1):=lH ⟨hvd,hvv,TM⟩;have aTq:gu<gv:=jJ HU3.o.lt hgv;have HU4:=lH (HU3.o.bl h_);clear h_ nF hvd hvv TM hgv;go_simp;refine iJ hK bH.o (fun hHeld=>?_);clear hK K;refine d7 [8,9] ?_;refine fZ ?_;go_simp;have hmn:m<=n:=by rw[<-Z1.o,<-TX.o];exact g_ P3.o
   have HNV:Hid (wv (vs.take m)=y*2^s/\2147483648<=(vs.take m).getD (m-1) 0):=lH (by
    have hlz:=HS.o;have h:=WB (n:=m) (by omega) (fA y) TX.o HVP.o.1 HVP.o.2.2 (by rw[cU];exact HVP.o.2.1) (by rw[HBT.o];exact hlz.lo) (by rw[HBT.o];exact hlz.hi) hlz.le;rwa[cU] at h)
   obtain⟨k,hk⟩:∃k,n=k+m:=⟨n-m,by omega⟩;subst hk;have tO:∀w:World,(Instr.makeSlice 83 (.int .i64 ((k:Int)+1)) (.int .i64 ((k:Int)+1))).run Tryz.prog w=.ok (.slice (some ⟨w.heap.size,0,none⟩) (k+1) (k+1)) (w.alloc (.cells (aY (List.replicate (k+1) 0)).toArray 175)):=fun w=>mA (k+1) (by omega) w;have HKQ:=lH ((Below.refl w4.heap.size w4).alloc lR (.cells (aY (List.replicate (k+1) 0)).toArray 175));have HQ0:=lH (aD.new w4 175 (aY (List.replicate (k+1) 0)).toArray)
   (go_wp2_with fail);clear tO;obtain⟨vm,hvm⟩:∃l,vs.take m=l:=⟨_,rfl⟩;have HVM:=lH hvm;have E4:Hid (vm.length=m):=lH (by rw[<-hvm,kC,HVP.o.2.2];omega);have HVW:Hid (Wd vm):=lH (by rw[<-hvm];exact HVP.o.1.take m);have HVT:Hid (∀i,i<m->vs.getD i 0=vm.getD i 0):=lH (fun i hi=>by
    rw[<-hvm,dQ,dQ,List.getElem?_take_of_lt hi])
   rw[hvm] at HNV;clear hvm;have SZ:Hid (us.length=k+m+1):=lH HUP.o.2.2;have NZ:Hid (B6 (x*2^s) us vm (List.replicate (k+1) 0) m (k+1)):=lH (IF (a:=gX x) (cU x) (fA x) Z1.o (by omega) HUP.o.1 (lX _) HUP.o.2.1 aBP E4.o HNV.o.2 (nJ _ _));have mM:Hid (2147483648<=vm.getD (m-1) 0):=lH HNV.o.2;obtain⟨dK,HU5,DE⟩:=eR (bH.o.tm HKQ.o) (HU4.o.bl HKQ.o) (LE.o.bl HKQ.o);have aTp:gv<w4.heap.size:=LE.o.lt;have yM:v.heap.size<=gu:=aME;have aML:v.heap.size<=w4.heap.size:=by omega
   have hnv:gv≠gu:=by omega
   have hnq:w4.heap.size≠gu:=by omega
   have aL9:gv≠w4.heap.size:=by omega
   have aL_:gu≠w4.heap.size:=by omega
   generalize w4.alloc (.cells (aY (List.replicate (k+1) 0)).toArray 175)=W at *;generalize w4.heap.size=gq at *;clear gY HU3 HY3 bH HU4 LE aJg aJe aMj HKQ;clear dE pD
   go_loopw [12] (fun v12 wr=>∃(j:Nat)(us qs:List Nat),j<=k+1/\v12=.int .i64 ((j:Int)-1)/\Below v.heap.size v wr/\aD wr gv 175 (aY vs).toArray/\aD wr gu 175 (aY us).toArray/\us.length=k+m+1/\aD wr gq 175 (aY qs).toArray/\qs.length=k+1/\B6 (x*2^s) us vm qs m j) (fun v12 _=>(intOf v12+1).toNat)
   case atStart=>exact⟨k+1,us,_,lR,aM (by omega),dK.o,DE.o,HU5.o,SZ.o,HQ0.o,by simp,NZ.o⟩
   case round=>as_aux_lemma=>
    clear dK DE HU5 SZ HQ0 NZ HUP;obtain⟨j,us,qs,hj,rfl,hb,hv,hu,hul,hq,TO,OW⟩:=hrel;obtain⟨HB,HV,HU,SZ,HQ⟩:=mP hb hv hu hul hq;have pT:=lH TO;have jE:=lH OW;clear hb hv hu hul hq TO OW;by_cases h0:j=0
    ·subst h0
     have e:(((0:Nat):Int)-1)=-1:=rfl;rw[e];clear e;have HDD:=lH (YU jE.o HNV.o.1 uP);have hyB:y<BB m:=by have:=kH y;rwa[TX.o] at this
     have HUZ:Hid (wv us / 2^s<BB m):=lH (Nat.lt_trans HDD.o.2.2 hyB);have HUW:Hid (Wd us):=lH jE.o.ud;have HQW:Hid (Wd qs):=lH jE.o.qd;have aEx:∀w:World,(Instr.makeSlice 83 (.int .i64 (m:Int)) (.int .i64 (m:Int))).run Tryz.prog w=.ok (.slice (some ⟨w.heap.size,0,none⟩) m m) (w.alloc (.cells (aY (List.replicate m 0)).toArray 175)):=fun w=>mA m (by omega) w;have HKR:=lH ((Below.refl wr.heap.size wr).alloc lR (.cells (aY (List.replicate m 0)).toArray 175));obtain⟨GY,d6,HU6,HQ6⟩:=gO (aD.new wr 175 (aY (List.replicate m 0)).toArray) (HB.o.tm HKR.o) (HU.o.bl HKR.o) (HQ.o.bl HKR.o);have aTt:wr.heap.size≠gu:=by have:=HU.o.lt;omega
     have aMJ:gu≠wr.heap.size:=by have:=HU.o.lt;omega
     have aMI:gq≠wr.heap.size:=by have:=HQ.o.lt;omega
     have aMH:v.heap.size<=wr.heap.size:=HB.o.size;clear jE;(go_wp2_with fail);clear aEx;generalize wr.alloc (.cells (aY (List.replicate m 0)).toArray 175)=WR at *;generalize wr.heap.size=gr at *;clear HB HV HU HQ HKR
     go_loopw [250] (fun v250 wr=>∃(z:Nat)(rs:List Nat),z<=m/\v250=.int .i64 z/\Below v.heap.size v wr/\aD wr gu 175 (aY us).toArray/\aD wr gq 175 (aY qs).toArray/\aD wr gr 175 (aY rs).toArray/\rs.length=m/\Wd rs/\Zf rs z/\wv rs=wv us / 2^s % BB z) (fun v250 _=>m-(intOf v250).toNat)
     case atStart=>exact⟨0,_,Nat.zero_le _,rfl,d6.o,HU6.o,HQ6.o,GY.o,by simp,lX _,nJ _ _,by rw[lW,rP,Nat.mod_one]⟩
     case round=>as_aux_lemma=>
      clear d6 HU6 HQ6 GY;obtain⟨z,rs,hz,rfl,hb,hu,hq,hr,RV,TN,hrz,hrv⟩:=hrel;obtain⟨HB,HU,HQ,HR,tJ⟩:=mP hb hu hq hr RV;obtain⟨m9,HRZ,HRV⟩:=eR TN hrz hrv;have aTs:=hr.lt;have hfr:=hr.frozen;have R3:=hu.lt;clear hb hu hq hr RV TN hrz hrv;by_cases hzm:z<m
      ·have EH:=bF HU.o (i:=z) (by rw[SZ.o];omega)
       have hc1:=bF HU.o (i:=z+1) (by rw[SZ.o];omega);have hcr:=bF HR.o (i:=z) (by rw[tJ.o];omega);have R8:=HUW.o.getD z;have bG:=HUW.o.getD (z+1);have HBS:=lH (NS HUW.o aBP hzm (by rw[tJ.o];omega) (by rw[SZ.o];omega) HRZ.o HRV.o);obtain⟨x0,OU⟩:∃a,us.getD z 0=a:=⟨_,rfl⟩;obtain⟨x1,CK⟩:∃a,us.getD (z+1) 0=a:=⟨_,rfl⟩;obtain⟨x2,xV⟩:∃a,rs.getD z 0=a:=⟨_,rfl⟩;rw[OU] at EH R8;rw[CK] at hc1 bG;rw[OU,CK] at HBS;rw[xV] at hcr;have hor:bits BinOp.or IntKind.u64 ((x1:Int)*4294967296) (x0:Int)=((x1*4294967296+x0:Nat):Int):=uE x1 x0 32 (by omega) bG R8;have aEj:=HBS.o.1;have dB:=lH HBS.o.2;clear HBS OU CK xV;generalize x1*4294967296+x0=sm at *;have gB:=lN z;have e_:Hid (m-(z+1)<m-z):=lH (by omega);have xJ:Hid ((sm:Int) / 2^s % 4294967296=((sm / 2^s % 4294967296:Nat):Int)):=lH (by
        rw[Int.natCast_emod,Int.natCast_ediv,Int.natCast_pow];rfl)
       have aOh:Hid ((rs.set z (sm / 2^s % 4294967296)).length=m):=lH (by rw[jI];exact tJ.o);have aOc:Hid (Wd (rs.set z (sm / 2^s % 4294967296))):=lH (m9.o.set _ (Nat.mod_lt _ (by decide)));have aOb:Hid (Zf (rs.set z (sm / 2^s % 4294967296)) (z+1)):=lH HRZ.o.put;have s1:(z:Int)<(m:Int):=by omega
       have s2:IntKind.i64.wrap ((z:Int)+1)=(z:Int)+1:=Go.IntWalk.i64_in _ (by omega);have s3:((z:Int)+1).toNat=z+1:=by omega
       have s4:(z:Int)+1<(k:Int)+(m:Int)+1:=by omega
       have s5:(0:Int)<=(z:Int)+1:=by omega
       have s6:(z:Int)<(k:Int)+(m:Int)+1:=by omega
       (go_wp2_with fail);refine rS 19 (fun hHeld=>?_);simp only[oO,List.take_zero];refine d7 [0,1,2,3,4,5,6,7,8,9,10,11,12,13,14,15,16,17,18] ?_;refine fZ ?_;(go_wp2_with fail);clear s1 s2 s3 s4 s5 s6;go_roundw
       case rel=>exact⟨z+1,rs.set z (sm / 2^s % 4294967296),hzm,aM gB.o,aH (HB.o.setCell aMH _),(HU.o.far aMJ _).drew,(HQ.o.far aMI _).drew,(dP HR.o xJ.o).drew,aOh.o,aOc.o,aOb.o,dB.o⟩
       case measure=>exact e_.o
      ·have hze:z=m:=by omega
       subst hze;have mM:Hid (wv rs=x % y):=lH (by rw[HRV.o,Nat.mod_eq_of_lt HUZ.o];exact HDD.o.2.1);(go_wp2_with fail);go_ret2;exact⟨cR.o.tm HB.o,_,k+1,k+1,qs,_,z,z,rs,rfl,⟨by have:=mU HQ.o;rwa[pT.o] at this,HQW.o,HDD.o.1,lR,by omega⟩,⟨by have:=mU HR.o;rwa[tJ.o] at this,m9.o,mM.o,lR,by omega⟩,by omega,by omega⟩
    ·obtain⟨i,rfl⟩:∃i,j=i+1:=⟨j-1,by omega⟩
     have e:(((i+1:Nat):Int)-1)=(i:Int):=by omega
     rw[e];clear e h0;have LI:Hid (eZ us vm m i):=lH (UX jE.o TP E4.o HVW.o mM.o (by rw[SZ.o];omega));obtain⟨u1,hu1⟩:∃t,us.getD (i+m) 0=t:=⟨_,rfl⟩;obtain⟨u0,hu0⟩:∃t,us.getD (i+m-1) 0=t:=⟨_,rfl⟩;obtain⟨u2,hu2⟩:∃t,us.getD (i+m-2) 0=t:=⟨_,rfl⟩;obtain⟨v1,lD⟩:∃t,vm.getD (m-1) 0=t:=⟨_,rfl⟩;obtain⟨v2,jG⟩:∃t,vm.getD (m-2) 0=t:=⟨_,rfl⟩;have aIv:=bF HU.o (i:=i+m) (by rw[SZ.o];omega);have aIw:=bF HU.o (i:=i+m-1) (by rw[SZ.o];omega);have XY:=bF HV.o (i:=m-1) (by rw[HVP.o.2.2];omega);have aEQ:=LI.o.ud.getD (i+m);have aER:=LI.o.ud.getD (i+m-1);have aIA:=LI.o.ud.getD (i+m-2);have aM6:=HVW.o.getD (m-1);have aM5:=HVW.o.getD (m-2);have aMl:=mM.o;rw[HVT.o _ (by omega),lD] at XY;rw[hu1] at aIv aEQ;rw[hu0] at aIw aER;rw[hu2] at aIA;rw[lD] at aM6 aMl;rw[jG] at aM5;have HTP:Hid (eZ.tp us m i=u1*4294967296+u0):=lH (by unfold eZ.tp;rw[hu1,hu0]);obtain⟨HU2,SY,aFn⟩:=eR hu2 lD jG;clear hu1 hu0 hu2 lD jG;have s1:IntKind.i64.wrap ((i:Int)+(m:Int))=(i:Int)+(m:Int):=Go.IntWalk.i64_in _ (by omega);have s2:IntKind.i64.wrap ((i:Int)+(m:Int)-1)=(i:Int)+(m:Int)-1:=Go.IntWalk.i64_in _ (by omega);have s3:((i:Int)+(m:Int)).toNat=i+m:=by omega
     have s4:((i:Int)+(m:Int)-1).toNat=i+m-1:=by omega
     have s5:(i:Int)+(m:Int)<(k:Int)+(m:Int)+1:=by omega
     have s6:(i:Int)+(m:Int)-1<(k:Int)+(m:Int)+1:=by omega
     have s7:(0:Int)<=(i:Int)+(m:Int):=by omega
     have s8:(0:Int)<=(i:Int)+(m:Int)-1:=by omega
     have s9:(1:Int)<=(i:Int)+(m:Int):=by omega
     have hor:bits BinOp.or IntKind.u64 ((u1:Int)*4294967296) (u0:Int)=((u1*4294967296+u0:Nat):Int):=uE u1 u0 32 (by omega) aEQ aER;have R3:gu<wr.heap.size:=HU.o.lt;have R2:gv<wr.heap.size:=HV.o.lt;(go_wp2_with fail)
     go_cut [13] (fun v13 wc=>v13=.int .u64 ((u1*4294967296+u0:Nat):Int)/\∃nq,wc=wr.drewN nq)
     case first=>
      go_quiet (fail)
      (go_wp2_with fail);go_meet
      case rel=>exact⟨rfl,_,rfl⟩
     obtain⟨rfl,nq1,rfl⟩:=hcut;have aIu:(wr.drewN nq1).cell? ⟨gv,m-1,none⟩=some (.int .u32 (v1:Int)):=XY;have aIo:gv<(wr.drewN nq1).heap.size:=R2;clear XY R2 R3;obtain⟨HBx,HVx,HUx,HQx⟩:=gO (aS HB.o nq1) (HV.o.drewN nq1) (HU.o.drewN nq1) (HQ.o.drewN nq1);clear HB HV HU HQ;have HB:=HBx;have HV:=HVx;have HU:=HUx;have HQ:=HQx;clear HBx HVx HUx HQx;generalize wr.drewN nq1=wa at *;have rM:=lH (eZ.top_lt LI.o);rw[HTP.o,SY.o] at rM;have htb:u1*4294967296+u0<18446744073709551616:=by omega
     generalize u1*4294967296+u0=tp at *;clear aIv aIw s1 s2 s3 s4 s5 s6 s7 s8 s9 hor aEQ aER;have aAf:=lH (JM LI.o);rw[HTP.o,SY.o] at aAf;have W_:=G9 tp v1;have htm:=G7 tp v1;have hqb:tp / v1<=tp:=Nat.div_le_self _ _;have RW:tp % v1<v1:=Nat.mod_lt _ (by omega);generalize XW:tp / v1=g0 at *;generalize jH:tp % v1=r0 at *;have hwq:IntKind.u64.wrap (g0:Int)=(g0:Int):=Go.IntWalk.u64_in _ (by omega);have aLP:((v1:Int) == 0)=false:=by simp;omega
     have s1:IntKind.i64.wrap ((m:Int)-1)=(m:Int)-1:=Go.IntWalk.i64_in _ (by omega);have s2:((m:Int)-1).toNat=m-1:=by omega
     have s3:(m:Int)-1<(m:Int):=by omega
     have s4:(1:Int)<=(m:Int):=by omega
     clear XW jH;(go_wp2_with fail)
     go_cut [14,15] (fun v14 v15 wc=>v14=.int .u64 (g0:Int)/\v15=.int .u64 (r0:Int)/\∃nq,wc=wa.drewN nq)
     case first=>
      go_quiet (fail)
      (go_wp2_with fail);go_meet
      case rel=>exact⟨rfl,rfl,_,rfl⟩
     obtain⟨rfl,rfl,nq2,rfl⟩:=hcut;clear aIu aIo;obtain⟨HBx,HVx,HUx,HQx⟩:=gO (aS HB.o nq2) (HV.o.drewN nq2) (HU.o.drewN nq2) (HQ.o.drewN nq2);clear HB HV HU HQ;have HB:=HBx;have HV:=HVx;have HU:=HUx;have HQ:=HQx;clear HBx HVx HUx HQx;generalize wa.drewN nq2=wb at *;clear W_ htm hwq aLP s1 s2 s3 s4 hqb;have XV:g0<18446744073709551616:=by
      have h:=aAf.o.eq;rw[SY.o,HTP.o] at h;have:g0*1<=g0*v1:=Nat.mul_le_mul_left _ (by omega);omega
     have XD:r0<4294967296:=by omega
     clear RW htb
     go_upto_block 2 with fail
     go_cut [14] (fun v14 wc=>∃g:Nat,v14=.int .u64 (g:Int)/\rO us vm i g/\∃nq,wc=wb.drewN nq)
     case first=>
      go_wp2_with fail
      go_loopw [14,15] (fun v14 v15 wr=>∃g rest:Nat,v14=.int .u64 (g:Int)/\v15=.int .u64 (rest:Int)/\g<18446744073709551616/\rest<4294967296/\K4 us vm m i g rest/\∃nq,wr=wb.drewN nq) (fun _ v15 _=>4294967296-(intOf v15).toNat)
      case atStart=>exact⟨g0,r0,rfl,rfl,XV,XD,aAf.o,0,rfl⟩
      case round=>as_aux_lemma=>
       clear aAf XV XD;obtain⟨g,rest,rfl,rfl,aTw,aEl,hG,nq3,rfl⟩:=hrel;have HG:=lH hG;clear hG;have aMZ:=bF HU.o (i:=i+m-2) (by rw[SZ.o];omega);have XY:=bF HV.o (i:=m-1) (by rw[HVP.o.2.2];omega);have aEN:=bF HV.o (i:=m-2) (by rw[HVP.o.2.2];omega);rw[HVT.o _ (by omega),SY.o] at XY;rw[HVT.o _ (by omega),aFn.o] at aEN;rw[HU2.o] at aMZ;have R3:=HU.o.lt;have R2:=HV.o.lt;have s1:IntKind.i64.wrap ((m:Int)-1)=(m:Int)-1:=Go.IntWalk.i64_in _ (by omega);have s2:((m:Int)-1).toNat=m-1:=by omega
       have s3:(m:Int)-1<(m:Int):=by omega
       have s4:(1:Int)<=(m:Int):=by omega
       have s5:IntKind.i64.wrap ((m:Int)-2)=(m:Int)-2:=Go.IntWalk.i64_in _ (by omega);have s6:((m:Int)-2).toNat=m-2:=by omega
       have s7:(m:Int)-2<(m:Int):=by omega
       have s8:(2:Int)<=(m:Int):=by omega
       have s9:IntKind.i64.wrap ((i:Int)+(m:Int))=(i:Int)+(m:Int):=Go.IntWalk.i64_in _ (by omega);have s10:IntKind.i64.wrap ((i:Int)+(m:Int)-2)=(i:Int)+(m:Int)-2:=Go.IntWalk.i64_in _ (by omega);have s11:((i:Int)+(m:Int)-2).toNat=i+m-2:=by omega
       have s12:(i:Int)+(m:Int)-2<(k:Int)+(m:Int)+1:=by omega
       have s13:(0:Int)<=(i:Int)+(m:Int)-2:=by omega
       have s14:(2:Int)<=(i:Int)+(m:Int):=by omega
       by_cases aES:4294967296<=g
       ·have ta:decide ((4294967296:Int)<=(g:Int))=true:=by simp;omega
        have ta2:(4294967296:Int)<=(g:Int):=by omega
        have HBG:=lH aES;clear aES;have hdn:=BH LI.o HG.o (.inl HBG.o);obtain⟨EF,M6⟩:=hdn;have gB:Hid ((g:Int)-1=((g-1:Nat):Int)):=lH (by omega);have e_:Hid ((rest:Int)+(v1:Int)=((rest+v1:Nat):Int)):=lH (by omega);have xJ:Hid (g-1<18446744073709551616):=lH (by omega);rw[SY.o] at M6;have fW:=lH M6;have TB:=lH (fun h=>xC LI.o fW.o (.inr h));have hw:IntKind.u64.wrap ((g:Int)-1)=(g:Int)-1:=Go.IntWalk.u64_in _ (by omega);have hgI:(1:Int)<=(g:Int):=by omega
        clear M6;by_cases R7:4294967296<=rest+v1
        ·have b1:decide ((4294967296:Int)<=(rest:Int)+(v1:Int))=true:=by simp;omega
         have b2:(4294967296:Int)<=(rest:Int)+(v1:Int):=by omega
         have zS:=lH R7;clear R7;(go_wp2_with fail)
         go_quiet (fail)
         (go_wp2_with fail);clear s1 s2 s3 s4 s5 s6 s7 s8 s9 s10 s11 s12 s13 s14;go_meet
         case rel=>exact⟨g-1,aM gB.o,TB.o zS.o,_,by first | rfl | exact World.drewN_drewN _ _ _⟩
        ·have b1:decide ((4294967296:Int)<=(rest:Int)+(v1:Int))=false:=by simp;omega
         have b2:¬(4294967296:Int)<=(rest:Int)+(v1:Int):=by omega
         have pK:Hid (rest+v1<4294967296):=lH (by omega);have LH:Hid (4294967296-(rest+v1)<4294967296-rest):=lH (by omega);(go_wp2_with fail)
         go_quiet (fail)
         (go_wp2_with fail);clear s1 s2 s3 s4 s5 s6 s7 s8 s9 s10 s11 s12 s13 s14;go_roundw
         case rel=>exact⟨g-1,rest+v1,aM gB.o,aM e_.o,xJ.o,pK.o,fW.o,_,by first | rfl | exact World.drewN_drewN _ _ _⟩
         case measure=>simp[intOf];omega
       ·have ta:decide ((4294967296:Int)<=(g:Int))=false:=by simp;omega
        have ta2:¬(4294967296:Int)<=(g:Int):=by omega
        have JG:g<4294967296:=by omega
        have XF:g*v2<=4294967295*4294967295:=Nat.mul_le_mul (by omega) (by omega);have XM:IntKind.u64.wrap ((g:Int)*(v2:Int))=((g*v2:Nat):Int):=by rw[<-Int.natCast_mul];exact Go.IntWalk.u64_in _ (by omega)
        have hor:bits BinOp.or IntKind.u64 ((rest:Int)*4294967296) (u2:Int)=((rest*4294967296+u2:Nat):Int):=uE rest u2 32 (by omega) aEl aIA;obtain⟨pr,aEn⟩:∃p,g*v2=p:=⟨_,rfl⟩;obtain⟨sm,hsm⟩:∃p,rest*4294967296+u2=p:=⟨_,rfl⟩;have KU:=lH aEn;have HSM:=lH hsm;rw[aEn] at XM;rw[hsm] at hor;clear XF aEn hsm aES;by_cases XZ:sm<pr
        ·have tb:decide (sm<pr)=true:=by simpa using XZ
         have HCM:Hid (rest*4294967296+us.getD (i+m-2) 0<g*vm.getD (m-2) 0):=lH (by rw[HU2.o,aFn.o,KU.o,HSM.o];exact XZ);clear XZ;have hdn:=BH LI.o HG.o (.inr HCM.o);obtain⟨EF,M6⟩:=hdn;have gB:Hid ((g:Int)-1=((g-1:Nat):Int)):=lH (by omega);have e_:Hid ((rest:Int)+(v1:Int)=((rest+v1:Nat):Int)):=lH (by omega);have xJ:Hid (g-1<18446744073709551616):=lH (by omega);rw[SY.o] at M6;have fW:=lH M6;have TB:=lH (fun h=>xC LI.o fW.o (.inr h));have hw:IntKind.u64.wrap ((g:Int)-1)=(g:Int)-1:=Go.IntWalk.u64_in _ (by omega);have hgI:(1:Int)<=(g:Int):=by omega
         clear M6;by_cases R7:4294967296<=rest+v1
         ·have b1:decide ((4294967296:Int)<=(rest:Int)+(v1:Int))=true:=by simp;omega
          have b2:(4294967296:Int)<=(rest:Int)+(v1:Int):=by omega
          have zS:=lH R7;clear R7;(go_wp2_with fail)
          go_quiet (fail)
          (go_wp2_with fail);clear s1 s2 s3 s4 s5 s6 s7 s8 s9 s10 s11 s12 s13 s14;go_meet
          case rel=>exact⟨g-1,aM gB.o,TB.o zS.o,_,by first | rfl | exact World.drewN_drewN _ _ _⟩
         ·have b1:decide ((4294967296:Int)<=(rest:Int)+(v1:Int))=false:=by simp;omega
          have b2:¬(4294967296:Int)<=(rest:Int)+(v1:Int):=by omega
          have pK:Hid (rest+v1<4294967296):=lH (by omega);have LH:Hid (4294967296-(rest+v1)<4294967296-rest):=lH (by omega);(go_wp2_with fail)
          go_quiet (fail)
          (go_wp2_with fail);clear s1 s2 s3 s4 s5 s6 s7 s8 s9 s10 s11 s12 s13 s14;go_roundw
          case rel=>exact⟨g-1,rest+v1,aM gB.o,aM e_.o,xJ.o,pK.o,fW.o,_,by first | rfl | exact World.drewN_drewN _ _ _⟩
          case measure=>simp[intOf];omega
        ·have tb:decide (sm<pr)=false:=by simpa using XZ
         have TB:=lH (xC LI.o HG.o (.inl ⟨JG,by rw[HU2.o,aFn.o,KU.o,HSM.o];omega⟩));clear XZ;(go_wp2_with fail)
         go_quiet (fail)
         (go_wp2_with fail);clear s1 s2 s3 s4 s5 s6 s7 s8 s9 s10 s11 s12 s13 s14;go_meet
         case rel=>exact⟨g,rfl,TB.o,_,by first | rfl | exact World.drewN_drewN _ _ _⟩
     obtain⟨g,rfl,hGO,nq3,rfl⟩:=hcut;have oG:=lH hGO;have JG:g<4294967296:=hGO.lt;clear hGO aAf XV XD;obtain⟨HBx,HVx,HUx,HQx⟩:=gO (aS HB.o nq3) (HV.o.drewN nq3) (HU.o.drewN nq3) (HQ.o.drewN nq3);clear HB HV HU HQ;have HB:=HBx;have HV:=HVx;have HU:=HUx;have HQ:=HQx;clear HBx HVx HUx HQx;generalize wb.drewN nq3=wd at *;have N5:=lH (MJ (g:=g) LI.o);(go_wp2_with fail)
     go_loopw [16,17,143] (fun v16 v17 v143 wr=>∃(t:Nat)(bo:Int)(ca:Nat)(ux:List Nat),t<=m/\v143=.int .i64 t/\v16=.int .i64 bo/\v17=.int .u64 (ca:Int)/\Below v.heap.size v wr/\aD wr gv 175 (aY vs).toArray/\aD wr gu 175 (aY ux).toArray/\aD wr gq 175 (aY qs).toArray/\SU us ux vm m i t g bo ca) (fun _ _ v143 _=>m-(intOf v143).toNat)
     case atStart=>exact⟨0,0,0,us,by omega,rfl,rfl,rfl,HB.o,HV.o,HU.o,HQ.o,N5.o⟩
     case round=>as_aux_lemma=>
      clear HB HV HU HQ N5;obtain⟨t,bo,ca,ux,ht,rfl,rfl,rfl,hb,hv,hu,hq,hms⟩:=hrel;obtain⟨HB,HV,HU,HQ,N5⟩:=mP hb hv hu hq hms;have aTN:=hms.b1;have aTM:=hms.b2;have CO:=hms.c1;have hfu:=hu.frozen;have R3:=hu.lt;have R2:=hv.lt;have HUX:Hid (ux.length=k+m+1):=lH (by rw[hms.ul];exact SZ.o);clear hb hv hu hq hms;by_cases htm:t<m
      ·have hcu:=bF HU.o (i:=i+t) (by rw[HUX.o];omega)
       have M7:=bF HV.o (i:=t) (by rw[HVP.o.2.2];omega);have FZ:=N5.o.ud.getD (i+t);have hbv:=HVW.o.getD t;have aCt:=lH (RE HVW.o E4.o (by rw[HUX.o];omega) JG htm N5.o);obtain⟨xv,hxv⟩:∃z,vm.getD t 0=z:=⟨_,rfl⟩;obtain⟨xu,hxu⟩:∃z,ux.getD (i+t) 0=z:=⟨_,rfl⟩;rw[HVT.o _ htm,hxv] at M7;rw[hxu] at hcu FZ;rw[hxv] at hbv;rw[hxv,hxu] at aCt;clear hxv hxu;have XF:g*xv<=4294967295*4294967295:=Nat.mul_le_mul (by omega) (by omega);have XM:IntKind.u64.wrap ((g:Int)*(xv:Int))=((g*xv:Nat):Int):=by rw[<-Int.natCast_mul];exact Go.IntWalk.u64_in _ (by omega)
       have aEj:=aCt.o.1;have T3:=lH aCt.o.2;clear aCt;generalize g*xv=pr at *;have aLY:(ca:Int)+(pr:Int)=((ca+pr:Nat):Int):=(Int.natCast_add _ _).symm;have aTQ:bits BinOp.and IntKind.u64 ((ca+pr:Nat):Int) 4294967295=(((ca+pr) % 4294967296:Nat):Int):=ZQ _ aEj;have hdv:((ca+pr:Nat):Int) / 4294967296=(((ca+pr) / 4294967296:Nat):Int):=by omega
       have hlo:(ca+pr) % 4294967296<4294967296:=Nat.mod_lt _ (by decide);have hhi:(ca+pr) / 4294967296<4294967296:=by omega
       have OX:ca+pr<18446744073709551616:=aEj;generalize (ca+pr) % 4294967296=lo at *;generalize (ca+pr) / 4294967296=hi at *;generalize ca+pr=sm at *;have gB:Hid (bo+((xu:Int)-(lo:Int))=bo+(xu:Int)-(lo:Int)):=lH (by omega);have e_:=lN t;have xJ:Hid (m-(t+1)<m-t):=lH (by omega);have pK:Hid (t+1<=m):=lH htm;have LH:Hid ((bo+((xu:Int)-(lo:Int))) % 4294967296=(((bo+(xu:Int)-(lo:Int)) % 4294967296).toNat:Int)):=lH (by omega);have s1:(t:Int)<(m:Int):=by omega
       have s2:IntKind.i64.wrap ((t:Int)+(i:Int))=(t:Int)+(i:Int):=Go.IntWalk.i64_in _ (by omega);have s3:((t:Int)+(i:Int)).toNat=i+t:=by omega
       have s4:(t:Int)+(i:Int)<(k:Int)+(m:Int)+1:=by omega
       have s5:(0:Int)<=(t:Int)+(i:Int):=by omega
       (go_wp2_with fail);clear s1 s2 s3 s4 s5;go_roundw
       case rel=>exact⟨t+1,_,hi,_,pK.o,aM e_.o,aM (by rw[gB.o]),rfl,HB.o.setCell yM _,HV.o.far hnv _,dP HU.o LH.o,HQ.o.far hnq _,T3.o⟩
       case measure=>exact xJ.o
      ·have hte:t=m:=by omega
       subst hte;have hcu:=bF HU.o (i:=i+t) (by rw[HUX.o];omega);have FZ:=N5.o.ud.getD (i+t);have HME:=lH (WH LI.o oG.o N5.o);obtain⟨xu,hxu⟩:∃z,ux.getD (i+t) 0=z:=⟨_,rfl⟩;rw[hxu] at hcu FZ HME;clear hxu;obtain⟨bot,aID⟩:∃z:Int,bo+(xu:Int)-(ca:Int)=z:=⟨_,rfl⟩;rw[aID] at HME;have HBO:Hid (bo+((xu:Int)-(ca:Int))=bot):=lH (by omega);have aM8:-4294967296<=bot:=by omega
       have aTO:bot<4294967296:=by omega
       have aM7:bo+((xu:Int)-(ca:Int))=bot:=HBO.o;clear aID;have s2:IntKind.i64.wrap ((i:Int)+(t:Int))=(i:Int)+(t:Int):=Go.IntWalk.i64_in _ (by omega);have s3:((i:Int)+(t:Int)).toNat=i+t:=by omega
       have s4:(i:Int)+(t:Int)<(k:Int)+(t:Int)+1:=by omega
       have s5:(0:Int)<=(i:Int)+(t:Int):=by omega
       go_upto_if 200 with fail
       clear s2 s3 s4 s5 hcu hfu R3 R2 aM7
       go_cut [14] (fun v14 wc=>∃(g2:Nat)(uy:List Nat),v14=.int .u64 (g2:Int)/\Below v.heap.size v wc/\aD wc gv 175 (aY vs).toArray/\aD wc gu 175 (aY uy).toArray/\aD wc gq 175 (aY qs).toArray/\uy.length=k+t+1/\Wd uy/\wv uy+g2*(wv vm*BB i)=wv us/\wv us<(g2+1)*(wv vm*BB i)/\g2<4294967296)
       case first=>
        by_cases pO:0<=bot
        ·obtain⟨e1,e2⟩:=HME.o.1 pO
         have nC:Hid (bot % 4294967296=(bot.toNat:Int)):=lH (by omega);have HW1:Hid (Wd (ux.set (i+t) bot.toNat)):=lH (N5.o.ud.set _ (by omega));have T4:Hid ((ux.set (i+t) bot.toNat).length=k+t+1):=lH (by rw[jI];exact HUX.o);have N9:=lH e2;clear e1 e2;(go_wp2_with fail);go_meet
         case rel=>exact⟨g,_,rfl,HB.o.setCell yM _,HV.o.far hnv _,dP HU.o nC.o,HQ.o.far hnq _,T4.o,HW1.o,N9.o,oG.o.up,oG.o.lt⟩
        ·obtain⟨e1,e2,e3⟩:=HME.o.2 (by omega)
         have aH6:bot<0:=by omega
         obtain⟨nw1,nw2⟩:=WD aM8 aH6;obtain⟨nw,hnw⟩:∃z,(bot+4294967296).toNat=z:=⟨_,rfl⟩;rw[hnw] at nw1 nw2 e2;have nC:=lH nw1;have vJ:=lH (NR N5.o nw2);clear nw1 nw2 hnw HME;have T4:Hid ((ux.set (i+t) nw).length=us.length):=lH (by rw[jI,HUX.o,SZ.o]);have N9:=lH e2;have HE3:=lH e3;have EF:1<=g:=CW e3;clear e1 e2 e3 pO;have hgI:(1:Int)<=(g:Int):=Int.ofNat_le.2 EF;have HGM:Hid ((g:Int)-1=((g-1:Nat):Int)):=lH (Int.ofNat_sub EF).symm;have p_:Hid (g-1<4294967296):=lH (zT_ (Nat.sub_le _ _) JG);have aFq:=lH (dP (i:=i+t) HU.o nC.o);have aKn:=lH (HB.o.setCell (p:=⟨gu,i+t,none⟩) yM (.int .u32 (bot % 4294967296)));have aJp:=lH (HV.o.far (p:=⟨gu,i+t,none⟩) hnv (.int .u32 (bot % 4294967296)));have vI:=lH (HQ.o.far (p:=⟨gu,i+t,none⟩) hnq (.int .u32 (bot % 4294967296)));have hw:IntKind.u64.wrap ((g:Int)-1)=(g:Int)-1:=UG EF JG;clear HB HV HU HQ N5 HUX;obtain⟨uz,huz⟩:∃l,ux.set (i+t) nw=l:=⟨_,rfl⟩;rw[huz] at vJ T4 N9 aFq;clear huz nC;generalize bot % 4294967296=bm at *;generalize wr.setCell ⟨gu,i+t,none⟩ (.int .u32 bm)=wz at *;(go_wp2_with fail);clear hw
         go_loopw [19,204] (fun v19 v204 wr=>∃(z cc:Nat)(uy:List Nat),z<=t/\v204=.int .i64 z/\v19=.int .u64 (cc:Int)/\Below v.heap.size v wr/\aD wr gv 175 (aY vs).toArray/\aD wr gu 175 (aY uy).toArray/\aD wr gq 175 (aY qs).toArray/\TI uz uy vm t i z cc) (fun _ v204 _=>t-(intOf v204).toNat)
         case atStart=>exact⟨0,0,uz,Nat.zero_le _,rfl,rfl,aKn.o,aJp.o,aFq.o,vI.o,vJ.o⟩
         case round=>as_aux_lemma=>
          clear aKn aJp aFq vI vJ;obtain⟨z,cc,uy,hz,rfl,rfl,hb,hv,hu,hq,xA⟩:=hrel;obtain⟨HB,HV,HU,HQ,vJ⟩:=mP hb hv hu hq xA;have M_:=xA.c1;have hfu:=hu.frozen;have R3:=hu.lt;have R2:=hv.lt;have HUY:Hid (uy.length=k+t+1):=lH (by rw[xA.ul,T4.o,SZ.o]);clear hb hv hu hq xA;by_cases hzt:z<t
          ·have hcu:=bF HU.o (i:=i+z) (by rw[HUY.o];omega)
           have M7:=bF HV.o (i:=z) (by rw[HVP.o.2.2];omega);have FZ:=vJ.o.ud.getD (i+z);have hbv:=HVW.o.getD z;have yC:=lH (ST HVW.o (by rw[HUY.o];omega) hzt vJ.o);obtain⟨xv,hxv⟩:∃a,vm.getD z 0=a:=⟨_,rfl⟩;obtain⟨xw,hxw⟩:∃a,uy.getD (i+z) 0=a:=⟨_,rfl⟩;rw[HVT.o _ hzt,hxv] at M7;rw[hxw] at hcu FZ;rw[hxv] at hbv;rw[hxv,hxw] at yC;clear hxv hxw;have gB:=lN z;have e_:Hid (t-(z+1)<t-z):=lH (by omega);have xJ:Hid (((cc:Int)+((xw:Int)+(xv:Int))) / 4294967296=(((cc+xw+xv) / 4294967296:Nat):Int)):=lH (by omega);have pK:Hid (((cc:Int)+((xw:Int)+(xv:Int))) % 4294967296=(((cc+xw+xv) % 4294967296:Nat):Int)):=lH (by omega);have s1:(z:Int)<(t:Int):=by omega
           have s2:IntKind.i64.wrap ((z:Int)+(i:Int))=(z:Int)+(i:Int):=Go.IntWalk.i64_in _ (by omega);have s3:((z:Int)+(i:Int)).toNat=i+z:=by omega
           have s4:(z:Int)+(i:Int)<(k:Int)+(t:Int)+1:=by omega
           have s5:(0:Int)<=(z:Int)+(i:Int):=by omega
           have aHF:IntKind.u64.wrap ((xw:Int)+(xv:Int))=(xw:Int)+(xv:Int):=Go.IntWalk.u64_in _ (by omega);have aHE:IntKind.u64.wrap ((cc:Int)+((xw:Int)+(xv:Int)))=(cc:Int)+((xw:Int)+(xv:Int)):=Go.IntWalk.u64_in _ (by omega);(go_wp2_with fail)
           go_quiet (fail)
           (go_wp2_with fail);clear s1 s2 s3 s4 s5 aHF aHE;go_roundw
           case rel=>exact⟨z+1,_,_,hzt,aM gB.o,aM xJ.o,aS (HB.o.setCell yM _) _,(HV.o.far hnv _).drewN _,(dP HU.o pK.o).drewN _,(HQ.o.far hnq _).drewN _,yC.o⟩
           case measure=>exact e_.o
          ·have hze:z=t:=by omega
           subst hze;have hcu:=bF HU.o (i:=i+z) (by rw[HUY.o];omega);have FZ:=vJ.o.ud.getD (i+z);obtain⟨xw,hxw⟩:∃a,uy.getD (i+z) 0=a:=⟨_,rfl⟩;have HBE:=lH (ZO LI.o oG.o T4.o N9.o HE3.o vJ.o hxw HUY.o);rw[hxw] at hcu FZ;clear hxw;have pK:=lH (SO xw cc);have s2:IntKind.i64.wrap ((i:Int)+(z:Int))=(i:Int)+(z:Int):=Go.IntWalk.i64_in _ (by omega);have s3:((i:Int)+(z:Int)).toNat=i+z:=by omega
           have s4:(i:Int)+(z:Int)<(k:Int)+(z:Int)+1:=by omega
           have s5:(0:Int)<=(i:Int)+(z:Int):=by omega
           have aM3:(cc:Int) % 4294967296=(cc:Int):=by omega
           have hw2:IntKind.u32.wrap ((xw:Int)+(cc:Int))=((xw:Int)+(cc:Int)) % 4294967296:=UH _;(go_wp2_with fail);clear s2 s3 s4 s5 aM3 hw2;go_meet
           case rel=>exact⟨g-1,_,aM HGM.o,HB.o.setCell yM _,HV.o.far hnv _,dP HU.o pK.o,HQ.o.far hnq _,HBE.o.1.1,HBE.o.1.2,HBE.o.2.1,HBE.o.2.2,p_.o⟩
       clear HB HV HU HQ N5 HUX HME oG JG;obtain⟨g2,uy,rfl,hb,hv,hu,hq,aHz,aHy,EG,aR,JG⟩:=hcut;obtain⟨HB,HV,HU,HQ,aNU⟩:=mP hb hv hu hq aHz;have aOK:=lH (LU jE.o (by rw[pT.o];omega) aHy JG EG aR);have aOv:Hid ((qs.set i g2).length=k+1):=lH (by rw[jI];exact pT.o);have hfq:=hq.frozen;have aTu:=hq.lt;have hcq:=bF hq (i:=i) (by rw[pT.o];omega);obtain⟨zq,hzq⟩:∃a,qs.getD i 0=a:=⟨_,rfl⟩;rw[hzq] at hcq;have gB:Hid (i<=k+1):=lH (by omega);have e_:Hid ((intOf (Value.int .i64 ((i:Int)-1))+1).toNat<(intOf (Value.int .i64 (i:Int))+1).toNat):=lH (by simp[intOf]);have aIn:(i:Int)<(k:Int)+1:=by omega
       have hgm:(g2:Int) % 4294967296=(g2:Int):=by omega
       clear hb hv hu hq aHz aHy EG aR hzq;(go_wp2_with fail);go_roundw
       case rel=>exact⟨i,uy,qs.set i g2,gB.o,rfl,HB.o.setCell aML _,HV.o.far aL9 _,HU.o.far aL_ _,aNU.o,dP HQ.o rfl,aOv.o,aOK.o⟩
       case measure=>exact e_.o
end
section
open Go.ChangeShapes Go.WideShapes Go.ChangeAt Go.RowKit
structure bS (w:Wo) (B:Nat) (q:Rat) (b1:Bool) (A:OA) (n c:Nat) (b2:Bool) (A2:OA) (m d:Nat):Prop where
 num:bE w B q.num b1 A n c
 den:bE w B (q.den:Int) b2 A2 m d
section
variable {w w':Wo} {B B':Nat} {q:Rat} {b1:Bool} {A:OA} {n c:Nat} {b2:Bool} {A2:OA} {m d:Nat}
theorem bS.below(h:bS w B q b1 A n c b2 A2 m d)(hb:Below B' w w')(hB:B<=B'):bS w' B q b1 A n c b2 A2 m d:=⟨h.num.below hb hB,h.den.below hb hB⟩
theorem bS.more(h:bS w B q b1 A n c b2 A2 m d)(hB:B<=B'):bS w B' q b1 A n c b2 A2 m d:=⟨h.num.more hB,h.den.more hB⟩
theorem bS.up(h:bS w w.heap.size q b1 A n c b2 A2 m d)(hb:Below w.heap.size w w'):bS w' w'.heap.size q b1 A n c b2 A2 m d:=⟨h.num.up hb,h.den.up hb⟩
theorem bS.keep(h:bS w w.heap.size q b1 A n c b2 A2 m d){p:Addr}(hp:w.cell? p=some v)(hv:∀k x,v≠.int k x)(u:Value):bS (w.setCell p u) (w.setCell p u).heap.size q b1 A n c b2 A2 m d:=⟨h.num.keep hp hv u,h.den.keep hp hv u⟩
theorem bS.n_le(h:bS w B q b1 A n c b2 A2 m d):n<=bM q:=by rw[h.num.en];exact aBj q
theorem bS.m_le(h:bS w B q b1 A n c b2 A2 m d):m<=bM q:=by rw[h.den.en,Int.natAbs_natCast];exact OM q
theorem bS.pos(h:bS w B q b1 A n c b2 A2 m d):b2=false:=by rw[h.den.eb];simp
end
def PU(q:Rat)(w:Wo)(e:Ending)(w':Wo):Prop:=Below w.heap.size w w'/\∃b1 A n c b2 A2 m d,e=.returned (.agg #[.bool b1,.slice A n c,.bool b2,.slice A2 m d])/\bS w' w'.heap.size q b1 A n c b2 A2 m d
theorem d9{x0 x1 x2 x3:Value}(h:aD w p t #[x0,x1,x2,x3]):aD ((((w.setCell ⟨p,0,none⟩ v0).setCell ⟨p,1,none⟩ v1).setCell ⟨p,2,none⟩ v2).setCell ⟨p,3,none⟩ v3) p t #[v0,v1,v2,v3]:=
 (((h.set_at (i:=0) (cs':=#[v0,x1,x2,x3]) v0 (by simp)).set_at (i:=1) (cs':=#[v0,v1,x2,x3]) v1 (by simp)).set_at (i:=2) (cs':=#[v0,v1,v2,x3]) v2 (by simp)).set_at (i:=3) v3 (by simp)
theorem BW{a:Wo}{B:Nat}(h:Below B a w)(hp:B<=p):Below B a ((((w.setCell ⟨p,0,none⟩ v0).setCell ⟨p,1,none⟩ v1).setCell ⟨p,2,none⟩ v2).setCell ⟨p,3,none⟩ v3):=(((h.setCell hp _).setCell hp _).setCell hp _).setCell hp _
theorem iP{w2:Wo}{T:Nat}{q:Rat}{b1:Bool}{b2:Bool}{A2:OA}(hb:Below w.heap.size w w2)(hg:w.heap.size<=g)(hB:aD w2 g T #[v0,v1,v2,v3])(h0:∀k x,v0≠.int k x)(h1:∀k x,v1≠.int k x)(h2:∀k x,v2≠.int k x)(h3:∀k x,v3≠.int k x)(h:bS w2 w2.heap.size q b1 A n c b2 A2 m d)(he:e=.returned (.agg #[.bool b1,.slice A n c,.bool b2,.slice A2 m d])):PU q w e ((((w2.setCell ⟨g,0,none⟩ (.bool b1)).setCell ⟨g,1,none⟩ (.slice A n c)).setCell ⟨g,2,none⟩ (.bool b2)).setCell ⟨g,3,none⟩ (.slice A2 m d)):=by
 refine⟨BW hb hg,b1,A,n,c,b2,A2,m,d,he,?_⟩;have B1:=hB.set_at (i:=0) (cs':=#[.bool b1,v1,v2,v3]) (.bool b1) (by simp);have B2:=B1.set_at (i:=1) (cs':=#[.bool b1,.slice A n c,v2,v3]) (.slice A n c) (by simp);have B3:=B2.set_at (i:=2) (cs':=#[.bool b1,.slice A n c,.bool b2,v3]) (.bool b2) (by simp);exact(((h.keep (hB.cell 0) h0 _).keep (B1.cell 1) h1 _).keep (B2.cell 2) h2 _).keep (B3.cell 3) h3 _
end

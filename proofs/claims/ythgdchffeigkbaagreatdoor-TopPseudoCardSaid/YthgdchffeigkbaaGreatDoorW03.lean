import Derived.Test.YthgdchffeigkbaaGreatDoorW01
import Derived.Test.YthgdchffeigkbaaGreatDoorW02
import Derived.Deep.OwnRows
import Derived.Laws.Bits64b
import Derived.Deep.DeepCutAuto
import Derived.Lib.BitFns
import Derived.Deep.CutBlock
set_option linter.unusedVariables false
set_option linter.unusedSimpArgs false
namespace Go.Proofs.YthgdchffeigkbaaGreatDoor
set_option maxHeartbeats 8000000
set_option maxRecDepth 100000
variable {A : OA} {L : List Oper} {W w w' : World} {a l out : List Nat} {c cc d fuel g i k m n p t x y : Nat} {e : Ending} {v v0 v1 v2 v3 : Value} {z : Int}
section
open Go.ChangeShapes Go.WideShapes Go.ChangeAt Go.RowKit
theorem GH(n:Int):IntKind.u64.wrap n=n % 18446744073709551616:=by
 simp[IntKind.wrap,IntKind.bits,IntKind.signed]
theorem aCV(n:Int):IntKind.u32.wrap n=n % 4294967296:=by
 simp[IntKind.wrap,IntKind.bits,IntKind.signed]
def bN(l:List Nat):List Value:=l.map fun(x:Nat)=>Value.int .u32 (x:Int)
def jF(w:Wo)(B:Nat)(A:OA)(n:Nat)(l:List Nat):Prop:=Rd w B 1 A n (bN l)
section
variable {w w':Wo} {B B' n:Nat} {A:OA} {l:List Nat}
theorem jF.len(h:jF w B A n l):l.length=n:=by have:=h.1;simp[bN] at this;omega
theorem jF.below(h:jF w B A n l)(hb:Below B' w w')(hB:B<=B'):jF w' B A n l:=Rd.below h hb hB
theorem jF.more(h:jF w B A n l)(hB:B<=B'):jF w B' A n l:=Rd.more h hB
theorem jF.up(h:jF w w.heap.size A n l)(hb:Below w.heap.size w w'):jF w' w'.heap.size A n l:=(h.below hb lR).more hb.size
theorem jF.lift(h:jF w g A n l)(hb:Below g w w')(hg:g<=w'.heap.size):jF w' w'.heap.size A n l:=(h.below hb lR).more hg
theorem jF.form(h:jF w B A n l)(h0:0<n):∃b off,A=some ⟨b,off,none⟩/\b<B:=by
 obtain⟨b,off,e,aR,_⟩:=h.2 h0;exact⟨b,off,e,aR⟩
theorem jF.at_{b off:Nat}(h:jF w B (some ⟨b,off,none⟩) n l)(hi:i<n):w.cell? ⟨b,off+i,none⟩=some (.int .u32 ((l.getD i 0:Nat):Int)):=by
 have hl:=h.len;obtain⟨b',off',e,_,hc⟩:=h.2 (by omega);injection e with e;injection e with e1 e2;subst e1;subst e2;refine hc i _ ?_;unfold bN;rw[lT,gS (by omega),dH,gS (by omega)];rfl
theorem jF.take(h:jF w B A n l)(hk:k<=n):jF w B A k (l.take k):=by
 have hl:=h.len;refine⟨by simp[bN];omega,fun h0=>?_⟩;obtain⟨b,off,e,aR,hc⟩:=h.2 (by omega);refine⟨b,off,e,aR,fun j u hu=>hc j u ?_⟩;unfold bN at hu ⊢;rw[List.map_take] at hu;have hj:=(cY.1 hu).1;rw[jN] at hj;rwa[List.getElem?_take_of_lt (by omega)] at hu
theorem AA(w:Wo)(B:Nat)(A:OA):jF w B A 0 []:=⟨rfl,fun h=>by omega⟩
theorem rE{t:TypeId}(h:aD w g t (bN l).toArray):jF w w.heap.size (some ⟨g,0,none⟩) l.length l:=
 ⟨by simp[bN],fun _=>⟨g,0,rfl,h.lt,fun j u hu=>by
  rw[show(⟨g,0+j,none⟩:Addr)=⟨g,j,none⟩ from by simp,h.cell j];simpa using hu⟩⟩
end
theorem aHF{v:Int}(hv:v=(x:Int)):(bN l).toArray.setIfInBounds i (.int .u32 v)=(bN (l.set i x)).toArray:=by
 subst hv;unfold bN;rw[List.map_set];simp
theorem aCW(n:Nat):madeCells #[Value.int .u32 0] n=(bN (List.replicate n 0)).toArray:=by
 apply Array.ext';rw[toList_madeCells_one];unfold bN;simp
theorem bY(h:aD w g t (bN l).toArray)(hi:i<l.length):w.cell? ⟨g,i,none⟩=some (.int .u32 ((l.getD i 0:Nat):Int)):=by
 rw[h.cell i];unfold bN;rw[List.getElem?_toArray,lT,gS hi,dH,gS hi];rfl
theorem eQ{v:Int}(h:aD w g t (bN l).toArray)(hv:v=(x:Int)):aD (w.setCell ⟨g,i,none⟩ (.int .u32 v)) g t (bN (l.set i x)).toArray:=h.set_at _ (aHF hv)
theorem aQ{k:IntKind}{a b:Int}(h:a=b):Value.int k a=Value.int k b:=by rw[h]
theorem IE:(Tryz.prog.info? 216).map (fun i=>(i.zero,i.size,i.bytes))=some (some (.int .u32 0),1,4):=by kernel_rfl
theorem qC(n:Nat)(hn:n<=70368744177664)(w:Wo):(Instr.makeSlice 111 (.int .i64 (n:Int)) (.int .i64 (n:Int))).run Tryz.prog w=.ok (.slice (some ⟨w.heap.size,0,none⟩) n n) (w.alloc (.cells (bN (List.replicate n 0)).toArray 216)):=by
 rw[run_make_row' (P:=Tryz.prog) 111 216 (.int .u32 0) 4 Tryz.underlying111 IE rfl .i64 .i64 n (by omega) (by omega) w,aCW]
theorem AH(r x s:Nat)(hs:s<=32)(hr:r<4294967296)(hx:x<2^s):bits .or .u64 ((r:Int)*((2^s:Nat):Int)) (x:Int)=((r*2^s+x:Nat):Int):=by
 have hp:2^s<=4294967296:=Nat.pow_le_pow_right (by decide) hs;have h1:r*2^s<=4294967295*4294967296:=Nat.mul_le_mul (by omega) hp;rw[<-Int.natCast_mul,u64_or_nat _ _ (by omega) (by omega)];congr 1
 rw[Nat.mul_comm];exact(Nat.two_pow_add_eq_or_of_lt hx r).symm
theorem aDR(c x s:Nat)(hc:c<2^s)(h:c+x*2^s<18446744073709551616):bits .or .u64 (c:Int) (IntKind.u64.wrap ((x:Int)*2^s))=((c+x*2^s:Nat):Int):=by
 have e:(x:Int)*2^s=((x*2^s:Nat):Int):=by rw[Int.natCast_mul,Int.natCast_pow];rfl
 rw[e,GH];rw[show((x*2^s:Nat):Int) % 18446744073709551616=((x*2^s:Nat):Int) from by omega];rw[u64_or_nat _ _ (by omega) (by omega)];congr 1
 rw[Nat.or_comm,Nat.mul_comm x,<-Nat.two_pow_add_eq_or_of_lt hc,Nat.add_comm]
theorem aGa(a:Nat)(h:a<18446744073709551616):bits .and .u64 (a:Int) 4294967295=((a % 4294967296:Nat):Int):=by
 have:=u64_and_nat a 4294967295 h (by decide);rw[show((4294967295:Nat):Int)=4294967295 from rfl] at this;rw[this];congr 1
 exact Nat.and_two_pow_sub_one_eq_mod a 32
theorem aCU(h1:1<=g)(h2:g<4294967296):IntKind.u64.wrap ((g:Int)-1)=(g:Int)-1:=Go.IntWalk.u64_in _ (by omega)
theorem aBH(a b:Nat):((a:Int)+(b:Int)) % 4294967296=(((a+b) % 4294967296:Nat):Int):=by omega
theorem O3(a b:Nat):((a:Int)).tmod (b:Int)=((a % b:Nat):Int):=rfl
theorem O5(a b:Nat):((a:Int)).tdiv (b:Int)=((a / b:Nat):Int):=rfl
theorem aF7{w1:Wo}(hb:Below W.heap.size W w1):(∀b o,b<W.heap.size->w1.cell? ⟨b,o,none⟩=W.cell? ⟨b,o,none⟩)/\(∀b o,b<W.heap.size->w1.frozen? ⟨b,o,none⟩=W.frozen? ⟨b,o,none⟩):=
 ⟨fun b o h=>hb.cell (p:=⟨b,o,none⟩) h,fun b o h=>hb.frozen (p:=⟨b,o,none⟩) h⟩
def aGk(v:Nat)(w:Wo)(e:Ending)(w':Wo):Prop:=Below w.heap.size w w'/\∃A n c l,e=.returned (.slice A n c)/\jF w' w'.heap.size A n l/\Wd l/\wv l=v/\n<=c/\c<=9223372036854775807
theorem LA{v:Nat}(hb:Below w.heap.size w w')(h:aD w' g t (bN l).toArray)(hl:l.length=n)(hd:Wd l)(hv:wv l=v)(hn:n<=9223372036854775807)(he:e=.returned (.slice (some ⟨g,0,none⟩) n n)):aGk v w e w':=
 ⟨hb,_,n,n,l,he,by subst hl;exact rE h,hd,hv,lR,hn⟩
def CK(m:Bool)(v:Nat):Int:=if m then -(v:Int) else v
theorem FN(m:Bool)(v:Nat):(CK m v).natAbs=v:=by unfold CK;split<;>simp
theorem XS(m:Bool)(v:Nat):decide (CK m v<0)=(m && decide (0<v)):=by
 unfold CK;cases m with
 | true=>simp
 | false=>simp
theorem aDf(z:Int):CK (decide (z<0)) z.natAbs=z:=by
 unfold CK;by_cases h:z<0
 ·rw[if_pos (by simpa using h)];omega
 ·rw[if_neg (by simpa using h)];omega
theorem bV{x0 x1:Value}(h:aD w p t #[x0,x1]):aD ((w.setCell ⟨p,0,none⟩ v0).setCell ⟨p,1,none⟩ v1) p t #[v0,v1]:=
 (h.set_at (i:=0) (cs':=#[v0,x1]) v0 (by simp)).set_at (i:=1) v1 (by simp)
theorem cO{a:Wo}{B:Nat}(h:Below B a w)(hp:B<=p):Below B a ((w.setCell ⟨p,0,none⟩ v0).setCell ⟨p,1,none⟩ v1):=(h.setCell hp _).setCell hp _
structure bW (w:Wo) (B:Nat) (z:Int) (b:Bool) (A:OA) (n c:Nat):Prop where
 eb:b=decide (z<0)
 en:n=dA z.natAbs
 rd:jF w B A n (j_ z.natAbs)
 nc:n<=c
 cm:c<=9223372036854775807
section
variable {w w':Wo} {B B':Nat} {z:Int} {b:Bool} {A:OA} {n c:Nat}
theorem bW.below(h:bW w B z b A n c)(hb:Below B' w w')(hB:B<=B'):bW w' B z b A n c:=⟨h.eb,h.en,h.rd.below hb hB,h.nc,h.cm⟩
theorem bW.more(h:bW w B z b A n c)(hB:B<=B'):bW w B' z b A n c:=⟨h.eb,h.en,h.rd.more hB,h.nc,h.cm⟩
theorem bW.up(h:bW w w.heap.size z b A n c)(hb:Below w.heap.size w w'):bW w' w'.heap.size z b A n c:=(h.below hb lR).more hb.size
theorem bW.val(h:bW w B z b A n c):CK b (wv (j_ z.natAbs))=z:=by rw[dV,h.eb,aDf]
theorem MV{j:Nat}{u:Value}(h:(bN l)[j]?=some u):∃x,u=.int .u32 x:=by
 unfold bN at h;rw[lT] at h;obtain⟨x,_,he⟩:=Option.map_eq_some_iff.1 h;exact⟨_,he.symm⟩
theorem aDu(h:jF w B A n l){p:Addr}(hp:w.cell? p=some v)(hv:∀k x,v≠.int k x)(u:Value):jF (w.setCell p u) B A n l:=
 ⟨h.1,fun hn=>by
  obtain⟨b,off,e,aR,hc⟩:=h.2 hn;refine⟨b,off,e,aR,fun j y hy=>?_⟩;have VM:=hc j y hy;have cG:(⟨b,off+j,none⟩:Addr)≠p:=by
   intro he;rw[he,hp] at VM;obtain⟨x,rfl⟩:=MV hy;injection VM with VM;exact hv _ _ VM
  rw[World.cell?_setCell_other _ _ _ _ (Ne.symm cG)];exact VM⟩
theorem bW.keep(h:bW w w.heap.size z b A n c){p:Addr}(hp:w.cell? p=some v)(hv:∀k x,v≠.int k x)(u:Value):bW (w.setCell p u) (w.setCell p u).heap.size z b A n c:=by
 have hs:(w.setCell p u).heap.size=w.heap.size:=by simp
 rw[hs];exact⟨h.eb,h.en,aDu h.rd hp hv u,h.nc,h.cm⟩
end
def LgP(z:Int)(w:Wo)(e:Ending)(w':Wo):Prop:=Below w.heap.size w w'/\∃b A n c,e=.returned (.agg #[.bool b,.slice A n c])/\bW w' w'.heap.size z b A n c
theorem aLS{m:Bool}{v:Nat}(hb:Below w.heap.size w w')(hl:l=j_ v)(hk:l.length=k)(hr:jF w' w'.heap.size A k l)(hkc:k<=c)(KD:c<=9223372036854775807)(he:e=.returned (.agg #[.bool (m && decide (0<k)),.slice A k c])):LgP (CK m v) w e w':=by
 have vJ:k=dA v:=by rw[<-hk,hl];rfl
 have h0:decide (0<k)=decide (0<v):=by
  by_cases hv:v=0
  ·subst hv;rw[vJ,iL]
  ·rw[vJ,jX hv];simp;omega
 refine⟨hb,_,A,k,c,he,?_,?_,?_,hkc,KD⟩
 ·rw[XS,h0]
 ·rw[FN];exact vJ
 ·rw[FN,<-hl];exact hr
theorem oX{w2:Wo}{T:Nat}{b:Bool}(hb:Below w.heap.size w w2)(hg:w.heap.size<=g)(hB:aD w2 g T #[v0,v1])(h0:∀k x,v0≠.int k x)(h1:∀k x,v1≠.int k x)(h:bW w2 w2.heap.size z b A n c)(he:e=.returned (.agg #[.bool b,.slice A n c])):LgP z w e ((w2.setCell ⟨g,0,none⟩ (.bool b)).setCell ⟨g,1,none⟩ (.slice A n c)):=
 ⟨cO hb hg,b,A,n,c,he,(h.keep (hB.cell 0) h0 _).keep ((hB.set_ 0 (.bool b)).cell 1) (by simpa using h1) _⟩
theorem jF.bm(h:jF w w.heap.size A n l)(g:Below w.heap.size w w'):jF w' w'.heap.size A n l:=(h.below g lR).more g.size
end
section
section
open Go Go.RowKit
variable {P:Program} {Q:Exit->Act->World->Prop} {md:Region.Mode}
theorem fZ{α:Type _}{l:List α}{a:α}:l.toArray.setIfInBounds i a=(l.set i a).toArray:=List.setIfInBounds_toArray _ _ _
theorem fY{α:Type _}{x:α}{xs:List α}{a:α}:(x::xs).set 0 a=a::xs:=rfl
theorem fX{α:Type _}{x:α}{xs:List α}{a:α}:(x::xs).set (n+1) a=x::xs.set n a:=rfl
theorem tkH(i:Nat){oi:Oper}{listed:Array Bool}{a a':Act}(hi:L[i]?=some oi)(h:wpAnyH P md L.toArray Q (fun w'=>Below W.heap.size W w') fuel (listed.setIfInBounds i true) a' w)(hy:∀w',Below W.heap.size W w'->(∀b o,b<W.heap.size->w'.cell? ⟨b,o,none⟩=W.cell? ⟨b,o,none⟩)->(execOp a.eval oi).run P w'=.ok (.value v) w':=by intro w' _ LS;go_simp<;>with_reducible rfl)(ha:a.put oi.dst v=a':=by (try simp only[Act.put,fZ,fY,fX]);rfl)(hS:Below W.heap.size W w:=by assumption)(hB:zP md L.toArray listed i=true:=by kernel_rfl)(hQ:∀c a w,Q (.panic c) (a.put oi.dst v) w->Q (.panic c) a w:=by exact fun _ _ _ h=>h)(hw:Region.wanted oi (yielded L.toArray a.tmps)=true:=by rfl):wpAnyH P md L.toArray Q (fun w'=>Below W.heap.size W w') (fuel+1) listed a w:=
 aJ6 i hi hB hQ hw (fun w' h=>hy w' h (aF7 h).1) hS (by rw[ha];exact h)
inductive WP (P:Program) (md:Region.Mode) (Q:Exit->Act->World->Prop) (L:List Oper) (W:Wo):List Nat->Nat->Array Bool->Act->Nat->Array Bool->Act->Prop
 | nil {f:Nat} {l:Array Bool} {a:Act}:WP P md Q L W [] f l a f l a
 | cons {i f g:Nat} {r:List Nat} {l m:Array Bool} {a b c:Act} {o:Oper} {v:Value} (ho:L[i]?=some o) (hy:∀w',Below W.heap.size W w'->(∀b o,b<W.heap.size->w'.cell? ⟨b,o,none⟩=W.cell? ⟨b,o,none⟩)->(execOp a.eval o).run P w'=.ok (.value v) w') (ha:a.put o.dst v=b) (hB:zP md L.toArray l i=true) (hQ:∀c a w,Q (.panic c) (a.put o.dst v) w->Q (.panic c) a w) (hw:Region.wanted o (yielded L.toArray a.tmps)=true) (t:WP P md Q L W r f (l.setIfInBounds i true) b g m c):WP P md Q L W (i::r) (f+1) l a g m c
theorem WP.go{f:Nat}{l m:Array Bool}{a c:Act}{is:List Nat}(t:WP P md Q L W is f l a g m c)(hS:Below W.heap.size W w)(h:wpAnyH P md L.toArray Q (fun w'=>Below W.heap.size W w') g m c w):wpAnyH P md L.toArray Q (fun w'=>Below W.heap.size W w') f l a w:=by
 induction t with
 | nil=>exact h
 | cons ho hy ha hB hQ hw t ih=>exact tkH _ ho (ih h) hy ha hS hB hQ hw
theorem cR{f:Nat}{l m:Array Bool}{a c:Act}(is:List Nat)(h:wpAnyH P md L.toArray Q (fun w'=>Below W.heap.size W w') g m c w)(t:WP P md Q L W is f l a g m c:=by repeat (first | exact .nil | apply WP.cons rfl (by intro w' _ LS;go_simp<;>with_reducible rfl) (by (try simp only[Act.put,fZ,fY,fX]);rfl) (by kernel_rfl) (fun _ _ _ h=>h) (by rfl)))(hS:Below W.heap.size W w:=by assumption):wpAnyH P md L.toArray Q (fun w'=>Below W.heap.size W w') f l a w:=t.go hS h
theorem bI{L:List Oper}{S:World->Prop}(i:Nat){o:Oper}{fuel:Nat}{listed:Array Bool}{a:Act}{w:Wo}(h:∀K':Act->World->Prop,Shut (∀a w,S w->(S w->wpAnyH P md L.toArray Q S fuel (listed.setIfInBounds i true) a w)->K' a w)->if Region.wanted o (yielded L.toArray a.tmps)=true then Oper.wp P o a w K' Q else K' (a.put o.dst undef) w)(hr:Region.ready md L.toArray listed=[i]:=by kernel_rfl)(ho:L[i]?=some o:=by rfl):wpAnyH P md L.toArray Q S (fuel+1) listed a w:=aPp i hr ho h
theorem fP{L:List Oper}{S:World->Prop}(i:Nat){oi:Oper}{v:Value}{fuel:Nat}{listed:Array Bool}{a:Act}{w:Wo}(hy:∀w,S w->(execOp a.eval oi).run P w=.ok (.value v) w)(hS:S w)(h:wpAnyH P md L.toArray Q S fuel (listed.setIfInBounds i true) (a.put oi.dst v) w)(hi:L[i]?=some oi:=by rfl)(hB:zP md L.toArray listed i=true:=by kernel_rfl)(hQ:∀c a w,Q (.panic c) (a.put oi.dst v) w->Q (.panic c) a w:=by exact fun _ _ _ h=>h)(hw:Region.wanted oi (yielded L.toArray a.tmps)=true:=by rfl):wpAnyH P md L.toArray Q S (fuel+1) listed a w:=aJ6 i hi hB hQ hw hy hS h
theorem eP{ops op2:Array Oper}{o:Oper}{S:World->Prop}{listed:Array Bool}{a:Act}(h:Oper.wp P o a w (Q .normal) Q)(hr:Region.ready md ops listed=[]:=by kernel_rfl)(hw:Region.wanted o (yielded op2 a.tmps)=true:=by rfl):wpAnyH P md ops (kN P op2 o Q) S fuel listed a w:=wpAnyH_done hr (c_ hw h) _
theorem iB{S:World->Prop}{listed:Array Bool}{K:Act->World->Prop}{a a':Act}(hK:Shut (∀a w,S w->(S w->wpAnyH P md L.toArray Q S fuel listed a w)->K a w))(hs:S w)(h:S w->wpAnyH P md L.toArray Q S fuel listed a' w)(ha:a=a':=by (try simp only[Act.put,fZ,fY,fX]);rfl):K a w:=hK.out a w hs (by rw[ha];exact h)
theorem kQ{id:Nat}{a:Act}{w:Wo}{L:List Oper}(n:Nat){oN:Oper}(h:Below w.heap.size w w.drew->wpAnyH P .any (L.take n).toArray (kN P L.toArray oN Q) (fun w'=>Below w.heap.size w w') n (Array.replicate n false) a w.drew)(hm:P.follows .mixedOrders=true:=by kernel_rfl)(hs:rI .any L n=true:=by kernel_rfl)(hN:L[n]?=some oN:=by rfl):(Code.region id L.toArray true).wp P Q a w:=
 bT (S:=fun w'=>Below w.heap.size w w') n oN hm hs hN (aI bR) h
end
end
section
open Go.ChangeShapes Go.WideShapes Go.ChangeAt Go.RowKit
attribute [local go_sem ↓] aE
attribute [local go_sem] aL aK aO
theorem jV(m:Bool)(A:OA)(n c:Nat)(ws:List Nat)(w:Wo)(hr:jF w w.heap.size A n ws)(hd:Wd ws)(hn:n<=c)(hc:c<=9223372036854775807):Calls Tryz.prog 141 #[.bool m,.slice A n c] w (LgP (CK m (wv ws)) w):=by
 obtain⟨HR,HD,HL,HK⟩:=h_ hr hd hr.len ((Below.refl w.heap.size w).alloc lR (.cells #[.bool false,.slice none 0 0] 113));clear hr hd;go_enter Tryz.func141,Tryz.ntmps141
 go_wp2_with fail
 have HB:=lH (aD.new w 113 #[.bool false,.slice none 0 0]);have BK:=lH (HR.o.up HK.o);generalize w.alloc cP=W at *;generalize hg:w.heap.size=g at *;have HG:=lH hg;clear hg
 go_loop [1] (fun v1=>∃k:Nat,k<=n/\v1=.slice A k c/\wv (ws.take k)=wv ws) (fun v1=>match v1 with | .slice _ k _=>k | _=>0)
 case atStart=>exact⟨n,lR,rfl,by rw[nT (Nat.le_of_eq HL.o)]⟩
 case round=>
  obtain⟨k,hk,rfl,hv⟩:=hrel;have HV:=lH hv;have HE:Hid (∀v' e w',Below g w w'->jF w' w'.heap.size A k (ws.take k)->(k=0\/ws.getD (k-1) 0≠0)->v'=.agg #[.bool (m && decide (0<k)),.slice A k c]->e=.returned v'->LgP (CK m (wv ws)) w e w'):=lH (fun v' e w' hb hr hz hv' he=>aLS (by rw[HG.o];exact hb) (by rw[aCZ HD.o (by have:=HL.o;omega) hz,HV.o]) (by rw[jN,HL.o,Nat.min_eq_left hk]) hr (b_ hk hn) hc (by rw[he,hv']));clear hv;obtain⟨b0,b1,bf,bl⟩:=HB.o.e2;by_cases h0:k=0
  ·subst h0
   cases m with
   | true=>
    (go_wp2_with fail);generalize VS:(W.setCell ⟨g,0,none⟩ _).setCell ⟨g,1,none⟩ _=W2;have dN:Hid (aD W2 g 113 #[.bool (true && decide (0<0)),.slice A 0 c]):=lH (by rw[<-VS];exact bV HB.o);have yB:Hid (Below g w W2):=lH (by rw[<-VS];exact cO HK.o lR);clear VS b0 b1;obtain⟨q0,q1⟩:=dN.o.a2;refine bodyPost_ret (v:=.agg #[.bool (true && decide (0<0)),.slice A 0 c]) (by simp[results,Tryz.results141,go_sem,q0,q1]) rfl (HE.o _ _ _ yB.o (AA _ _ _) (.inl trivial) rfl rfl)
   | false=>
    (go_wp2_with fail);generalize VS:(W.setCell ⟨g,0,none⟩ _).setCell ⟨g,1,none⟩ _=W2;have dN:Hid (aD W2 g 113 #[.bool (false && decide (0<0)),.slice A 0 c]):=lH (by rw[<-VS];exact bV HB.o);have yB:Hid (Below g w W2):=lH (by rw[<-VS];exact cO HK.o lR);clear VS b0 b1;obtain⟨q0,q1⟩:=dN.o.a2;refine bodyPost_ret (v:=.agg #[.bool (false && decide (0<0)),.slice A 0 c]) (by simp[results,Tryz.results141,go_sem,q0,q1]) rfl (HE.o _ _ _ yB.o (AA _ _ _) (.inl trivial) rfl rfl)
  ·have kO:0<k:=by omega
   obtain⟨b,off,hA,qL⟩:=BK.o.form (by omega);subst hA;have IJ:=BK.o.at_ (i:=k-1) (by omega);have uK:=lH (BK.o.take hk);have g1:(1:Int)<=(k:Int):=by omega
   have g4:((k:Int)-1).toNat=k-1:=by omega
   have g5:(k:Int)-1<(k:Int):=by omega
   have g6:(k:Int)-1<=(c:Int):=by omega
   have g7:(k:Int)<=9223372036854775807:=by omega
   obtain⟨x,hx⟩:∃x,ws.getD (k-1) 0=x:=⟨_,rfl⟩;have HX:=lH hx;rw[hx] at IJ;clear hx;by_cases hz:x=0
   ·subst hz
    have hz:=HX.o;have HT:=lH (aAa kO (by have:=HL.o;omega) hz);clear hz b0 b1 bf bl;(go_wp2_with fail)
    go_round
    case rel=>exact⟨k-1,by omega,rfl,by rw[HT.o,HV.o]⟩
    case measure=>simp;omega
   ·have hzb:((x:Int) == 0)=false:=by simp;exact hz
    have HZ:Hid (ws.getD (k-1) 0≠0):=lH (by rw[HX.o];exact hz);clear hz;cases m with
    | true=>
     (go_wp2_with fail);generalize VS:(W.setCell ⟨g,0,none⟩ _).setCell ⟨g,1,none⟩ _=W2;have dN:Hid (aD W2 g 113 #[.bool true,.slice (some ⟨b,off,none⟩) k c]):=lH (by rw[<-VS];exact bV HB.o);have yB:Hid (Below g w W2):=lH (by rw[<-VS];exact cO HK.o lR);clear VS b0 b1;obtain⟨q0,q1⟩:=dN.o.a2;refine bodyPost_ret (v:=.agg #[.bool true,.slice (some ⟨b,off,none⟩) k c]) (by simp[results,Tryz.results141,go_sem,q0,q1,kO]) rfl (HE.o _ _ _ yB.o (((HR.o.take hk).below yB.o lR).more (HG.o▸yB.o.size)) (.inr HZ.o) (by simp[kO]) rfl)
    | false=>
     (go_wp2_with fail);generalize VS:(W.setCell ⟨g,0,none⟩ _).setCell ⟨g,1,none⟩ _=W2;have dN:Hid (aD W2 g 113 #[.bool (false && decide (0<k)),.slice (some ⟨b,off,none⟩) k c]):=lH (by rw[<-VS];exact bV HB.o);have yB:Hid (Below g w W2):=lH (by rw[<-VS];exact cO HK.o lR);clear VS b0 b1;obtain⟨q0,q1⟩:=dN.o.a2;refine bodyPost_ret (v:=.agg #[.bool (false && decide (0<k)),.slice (some ⟨b,off,none⟩) k c]) (by simp[results,Tryz.results141,go_sem,q0,q1,kO]) rfl (HE.o _ _ _ yB.o (((HR.o.take hk).below yB.o lR).more (HG.o▸yB.o.size)) (.inr HZ.o) rfl rfl)
theorem aIl(z:Int):CK (!decide (z<0)) z.natAbs=-z:=by
 unfold CK;by_cases h:z<0
 ·simp[h];omega
 ·simp[h];omega
theorem FS(z:Int)(b:Bool)(A:OA)(n c:Nat)(w:Wo)(h:bW w w.heap.size z b A n c):Calls Tryz.prog 140 #[.agg #[.bool b,.slice A n c]] w (LgP (-z) w):=by
 have eD:Hid (Below w.heap.size w ((w.alloc (aN b A n c)).alloc cP)):=lH ((bA).alloc (by simp) _);have HX:=lH ((aD.new w 113 #[.bool b,.slice A n c]).alloc cP);have HG:Hid (aD ((w.alloc (aN b A n c)).alloc cP) (w.heap.size+1) 113 #[.bool false,.slice none 0 0]):=lH (aD.new_ (by simp));have HH:=lH (h.up eD.o);have mO:w.heap.size<=w.heap.size+1:=by omega
 have HE:=lH h.eb;clear h;go_enter Tryz.func140,Tryz.ntmps140
 obtain⟨x0,x1,xl⟩:=HX.o.b2
 go_wp2_with fail
 clear x0 x1 xl;generalize (w.alloc (aN b A n c)).alloc cP=W at *;refine(jV (!b) A n c (j_ z.natAbs) W (by have h:=HH.o.rd;have e:=HH.o.en;exact h) (gU _) HH.o.nc HH.o.cm).mono ?_;rw[dV,HE.o,aIl];rintro e w2 ⟨k,b2,A2,n2,c2,rfl,h2⟩;have dN:=cJ eD k;have jA:=lH (HG.o.bl k);have H2:=lH h2;clear k h2 HG HX HH;obtain⟨z0,z1,zf,zl⟩:=jA.o.e2
 go_wp2_with fail
 generalize fG:(w2.setCell ⟨_,0,none⟩ _).setCell ⟨_,1,none⟩ _=W9;have iZ:=lH (oX (e:=.returned (.agg #[.bool b2,.slice A2 n2 c2])) dN.o mO jA.o (by simp) (by simp) H2.o rfl);rw[fG] at iZ;have fH:Hid (aD W9 _ 113 #[.bool b2,.slice A2 n2 c2]):=lH (by rw[<-fG];exact bV jA.o);clear fG z0 z1 zf zl;obtain⟨q0,q1⟩:=fH.o.a2;exact bodyPost_ret (v:=.agg #[.bool b2,.slice A2 n2 c2]) (by simp[results,Tryz.results140,go_sem,q0,q1]) rfl iZ.o
theorem CZ(z:Int)(b:Bool)(A:OA)(n c:Nat)(w:Wo)(h:bW w w.heap.size z b A n c):Calls Tryz.prog 155 #[.agg #[.bool b,.slice A n c]] w fun e w'=>e=.returned (.int .i64 z.sign)/\Below w.heap.size w w':=by
 obtain⟨HX,HE,HN⟩:=dZ (aD.new w 113 #[.bool b,.slice A n c]) h.eb h.en;clear h;go_enter Tryz.func155,Tryz.ntmps155
 obtain⟨x0,x1,xl⟩:=HX.o.b2;have eD:=lH ((Below.refl w.heap.size w).alloc lR (.cells #[.bool b,.slice A n c] 113));by_cases hz:z=0
 ·have hn:n=0:=by rw[HN.o,hz];exact iL
  have HZ:Hid (z.sign=0):=lH (by rw[hz];rfl);clear hz;subst hn;(go_wp2_with fail);go_ret;exact⟨aU HZ.o.symm,eD.o⟩
 ·have hn:((n:Int) == 0)=false:=by
   have h1:n≠0:=by rw[HN.o,jX (by omega)];omega
   simp;omega
  cases b with
  | true=>
   have HZ:Hid (z.sign=-1):=lH (Int.sign_eq_neg_one_of_neg (by have:=HE.o;simpa using this.symm));clear hz;(go_wp2_with fail);go_ret;exact⟨aU HZ.o.symm,eD.o⟩
  | false=>
   have HZ:Hid (z.sign=1):=lH (Int.sign_eq_one_of_pos (by have:=HE.o;simp at this;omega));clear hz;(go_wp2_with fail);go_ret;exact⟨aU HZ.o.symm,eD.o⟩
theorem yJ(n:Int)(w:Wo)(h0:-9223372036854775808<=n)(h1:n<=9223372036854775807):Calls Tryz.prog 111 #[.int .i64 n] w (LgP n w):=by
 obtain⟨m,hm⟩:∃m,n.natAbs=m:=⟨_,rfl⟩;have Q5:m<18446744073709551616:=by omega
 have HWD:Hid (Wd [m % 4294967296,m / 4294967296]):=lH (fun x hx=>by
  simp at hx;rcases hx with rfl | rfl<;>omega)
 have BU:Hid (wv [m % 4294967296,m / 4294967296]=m):=lH (by simp only[wv];omega);go_enter Tryz.func111,Tryz.ntmps111
 by_cases hn:n<0
 ·have HV:Hid (CK true (wv [m % 4294967296,m / 4294967296])=n):=lH (by rw[BU.o];show -(m:Int)=n;omega)
  have hw1:IntKind.u64.wrap n=n+18446744073709551616:=by
   rw[GH];omega
  have hw2:IntKind.u64.wrap (-(n+18446744073709551616))=(m:Int):=by
   rw[GH];omega
  have HM:=lH hm;have HN:=lH hn;clear hm;have HW:Hid (Below w.heap.size w ((w.alloc cP).alloc (.cells (bN [m % 4294967296,m / 4294967296]).toArray 216))):=lH ((bA).alloc (by simp) _);have HG:Hid (aD ((w.alloc cP).alloc (.cells (bN [m % 4294967296,m / 4294967296]).toArray 216)) w.heap.size 113 #[.bool false,.slice none 0 0]):=lH ((aD.new w _ _).alloc _);have HS:Hid (aD ((w.alloc cP).alloc (.cells (bN [m % 4294967296,m / 4294967296]).toArray 216)) (w.heap.size+1) 216 (bN [m % 4294967296,m / 4294967296]).toArray):=lH (aD.new_ (by simp));have mO:w.heap.size<=w.heap.size:=lR;(go_wp2_with fail);clear hw1 hw2;have RF:#[.int .u32 ((m:Int) % 4294967296),.int .u32 ((m:Int) / 4294967296)]=(bN [m % 4294967296,m / 4294967296]).toArray:=by
   simp[bN]
  rw[RF];clear RF;generalize (w.alloc cP).alloc (.cells (bN [m % 4294967296,m / 4294967296]).toArray 216)=W at *;refine(jV true (some ⟨w.heap.size+1,0,none⟩) 2 2 [m % 4294967296,m / 4294967296] W (rE HS.o) HWD.o lR (by decide)).mono ?_;rw[HV.o];rintro e w2 ⟨k,b2,A2,n2,c2,rfl,h2⟩;have dN:=cJ HW k;have jA:=lH (HG.o.bl k);have H2:=lH h2;clear k h2 HG HS HW;obtain⟨z0,z1,zf,zl⟩:=jA.o.e2;(go_wp2_with fail);generalize fG:(w2.setCell ⟨_,0,none⟩ _).setCell ⟨_,1,none⟩ _=W9;have iZ:=lH (oX (e:=.returned (.agg #[.bool b2,.slice A2 n2 c2])) dN.o mO jA.o (by simp) (by simp) H2.o rfl);rw[fG] at iZ;have fH:Hid (aD W9 _ 113 #[.bool b2,.slice A2 n2 c2]):=lH (by rw[<-fG];exact bV jA.o);clear fG z0 z1 zf zl;obtain⟨q0,q1⟩:=fH.o.a2;exact bodyPost_ret (v:=.agg #[.bool b2,.slice A2 n2 c2]) (by simp[results,Tryz.results111,go_sem,q0,q1]) rfl iZ.o
 ·have HV:Hid (CK false (wv [m % 4294967296,m / 4294967296])=n):=lH (by rw[BU.o];show(m:Int)=n;omega)
  have wM:n=(m:Int):=by omega
  subst wM;clear hm;have HW:Hid (Below w.heap.size w ((w.alloc cP).alloc (.cells (bN [m % 4294967296,m / 4294967296]).toArray 216))):=lH ((bA).alloc (by simp) _);have HG:Hid (aD ((w.alloc cP).alloc (.cells (bN [m % 4294967296,m / 4294967296]).toArray 216)) w.heap.size 113 #[.bool false,.slice none 0 0]):=lH ((aD.new w _ _).alloc _);have HS:Hid (aD ((w.alloc cP).alloc (.cells (bN [m % 4294967296,m / 4294967296]).toArray 216)) (w.heap.size+1) 216 (bN [m % 4294967296,m / 4294967296]).toArray):=lH (aD.new_ (by simp));have mO:w.heap.size<=w.heap.size:=lR;(go_wp2_with fail);have RF:#[.int .u32 ((m:Int) % 4294967296),.int .u32 ((m:Int) / 4294967296)]=(bN [m % 4294967296,m / 4294967296]).toArray:=by
   simp[bN]
  rw[RF];clear RF;generalize (w.alloc cP).alloc (.cells (bN [m % 4294967296,m / 4294967296]).toArray 216)=W at *;refine(jV false (some ⟨w.heap.size+1,0,none⟩) 2 2 [m % 4294967296,m / 4294967296] W (rE HS.o) HWD.o lR (by decide)).mono ?_;rw[HV.o];rintro e w2 ⟨k,b2,A2,n2,c2,rfl,h2⟩;have dN:=cJ HW k;have jA:=lH (HG.o.bl k);have H2:=lH h2;clear k h2 HG HS HW;obtain⟨z0,z1,zf,zl⟩:=jA.o.e2;(go_wp2_with fail);generalize fG:(w2.setCell ⟨_,0,none⟩ _).setCell ⟨_,1,none⟩ _=W9;have iZ:=lH (oX (e:=.returned (.agg #[.bool b2,.slice A2 n2 c2])) dN.o mO jA.o (by simp) (by simp) H2.o rfl);rw[fG] at iZ;have fH:Hid (aD W9 _ 113 #[.bool b2,.slice A2 n2 c2]):=lH (by rw[<-fG];exact bV jA.o);clear fG z0 z1 zf zl;obtain⟨q0,q1⟩:=fH.o.a2;exact bodyPost_ret (v:=.agg #[.bool b2,.slice A2 n2 c2]) (by simp[results,Tryz.results111,go_sem,q0,q1]) rfl iZ.o
def S3(x y:Nat)(r:Int):Prop:=(r<0<->x<y)/\(r=0<->x=y)
theorem aBz(h:dA x≠dA y):S3 x y ((dA x:Int)-(dA y:Int)):=by
 rcases Nat.lt_or_gt_of_ne h with h1 | h1
 ·have:=G8 h1
  exact⟨by omega,by omega⟩
 ·have:=G8 h1
  exact⟨by omega,by omega⟩
theorem aF1(h:x<y):S3 x y (-1):=⟨by omega,by omega⟩
theorem aF2(h:y<x):S3 x y 1:=⟨by omega,by omega⟩
theorem aF3(h:x=y):S3 x y 0:=⟨by omega,by omega⟩
def aZf(x y:Nat)(w:Wo)(e:Ending)(w':Wo):Prop:=(∃r:Int,e=.returned (.int .i64 r)/\S3 x y r)/\∃nq,w'=w.drewN nq
theorem SA(A:OA)(n c:Nat)(B:OA)(m d:Nat)(x y:Nat)(w:Wo)(hx:jF w w.heap.size A n (j_ x))(hy:jF w w.heap.size B m (j_ y))(hn:n<=9223372036854775807)(hm:m<=9223372036854775807):Calls Tryz.prog 148 #[.slice A n c,.slice B m d] w (aZf x y w):=by
 have hxl:=hx.len;have hyl:=hy.len;have HX:=lH hx;have HY:=lH hy;have HXL:Hid (dA x=n):=lH hxl;have HYL:Hid (dA y=m):=lH hyl;clear hx hy hxl hyl;go_enter Tryz.func148,Tryz.ntmps148
 by_cases LP:n=m
 ·subst LP
  have uF:Hid ((j_ x).length=(j_ y).length):=lH (by rw[tT,tT,HXL.o,HYL.o]);(go_wp2_with fail)
  go_loopw [5] (fun v5 wr=>∃k:Nat,k<=n/\v5=.int .i64 ((k:Int)-1)/\(j_ x).drop k=(j_ y).drop k/\∃nq,wr=w.drewN nq) (fun v5 _=>(intOf v5+1).toNat)
  case atStart=>exact⟨n,lR,rfl,by rw[List.drop_eq_nil_of_le (by rw[tT,HXL.o];exact lR),List.drop_eq_nil_of_le (by rw[tT,HYL.o];exact lR)],0,rfl⟩
  case round=>
   obtain⟨k,hk,rfl,hd,nq,rfl⟩:=hrel;have HD:=lH hd;clear hd;by_cases h0:k=0
   ·subst h0
    have HE:Hid (x=y):=lH (by have:=HD.o;simp at this;rw[<-dV x,this,dV]);have e:(((0:Nat):Int)-1)=-1:=rfl;rw[e];clear e;(go_wp2_with fail);go_ret;exact⟨⟨0,rfl,aF3 HE.o⟩,nq,rfl⟩
   ·obtain⟨j,rfl⟩:∃j,k=j+1:=⟨k-1,by omega⟩
    have e:(((j+1:Nat):Int)-1)=(j:Int):=by omega
    rw[e];clear e h0;have hj:j<n:=hk;obtain⟨b1,o1,AV,bO⟩:=HX.o.form (by omega);subst AV;obtain⟨b2,o2,KF,bH⟩:=HY.o.form (by omega);subst KF;have hcx:=HX.o.at_ hj;have hcy:=HY.o.at_ hj;have HC:=lH (fun h=>aCP (gU x) uF.o (i:=j) (by rw[tT,HXL.o];exact hj) HD.o h);have TJ:=lH (fun h=>aCP (gU y) uF.o.symm (i:=j) (by rw[tT,HYL.o];exact hj) HD.o.symm h);have HQ:=lH (fun h=>N1 uF.o (i:=j) (by rw[tT,HXL.o];exact hj) HD.o h);obtain⟨xj,hxj⟩:∃v,(j_ x).getD j 0=v:=⟨_,rfl⟩;obtain⟨yj,hyj⟩:∃v,(j_ y).getD j 0=v:=⟨_,rfl⟩;have HXJ:=lH hxj;have HYJ:=lH hyj;rw[hxj] at hcx;rw[hyj] at hcy;clear hxj hyj;have hjI:(j:Int)<(n:Int):=by omega
    rcases Nat.lt_trichotomy xj yj with h | h | h
    ·have HR:Hid (x<y):=lH (by have:=HC.o (by rw[HXJ.o,HYJ.o];exact h);rwa[dV,dV] at this)
     have t1:((xj:Int) != (yj:Int))=true:=by simp;omega
     have t1':((xj:Int) == (yj:Int))=false:=by simp;omega
     have t2:decide (xj<yj)=true:=by simpa using h
     clear h;(go_wp2_with fail)
     go_quiet (fail)
     go_wp2_with fail
     go_quiet (fail)
     (go_wp2_with fail);go_ret;exact⟨⟨-1,rfl,aF1 HR.o⟩,_,by rw[World.drewN_drewN,World.drewN_drewN]⟩
    ·subst h
     have HR:=lH (HQ.o (by rw[HXJ.o,HYJ.o]));(go_wp2_with fail)
     go_quiet (fail)
     (go_wp2_with fail);go_roundw
     case rel=>exact⟨j,by omega,by go_num,HR.o,_,rfl⟩
     case measure=>simp[intOf]
    ·have HR:Hid (y<x):=lH (by have:=TJ.o (by rw[HXJ.o,HYJ.o];exact h);rwa[dV,dV] at this)
     have t1:((xj:Int) != (yj:Int))=true:=by simp;omega
     have t1':((xj:Int) == (yj:Int))=false:=by simp;omega
     have t2:decide (xj<yj)=false:=by simp;omega
     clear h;(go_wp2_with fail)
     go_quiet (fail)
     go_wp2_with fail
     go_quiet (fail)
     (go_wp2_with fail);go_ret;exact⟨⟨1,rfl,aF2 HR.o⟩,_,by rw[World.drewN_drewN,World.drewN_drewN]⟩
 ·have HR:=lH (aBz (x:=x) (y:=y) (by rw[HXL.o,HYL.o];exact LP))
  rw[HXL.o,HYL.o] at HR;have h1:((n:Int) == (m:Int))=false:=by simp;omega
  have h2:((n:Int) != (m:Int))=true:=by simp;omega
  clear LP;(go_wp2_with fail);go_ret;exact⟨⟨_,rfl,HR.o⟩,0,rfl⟩
structure OR (a b:List Nat) (n k cc:Nat) (out:List Nat):Prop where
 len:out.length=n+1
 od:Wd out
 oz:Zf out k
 c1:cc<=1
 eq:wv out+cc*BB k=wv (a.take k)+wv (b.take k)
theorem OR.step{b:List Nat}(H:OR a b n k cc out)(ha:Wd a)(hb:Wd b)(hk:k<n):OR a b n (k+1) ((cc+a.getD k 0+b.getD k 0) / 4294967296) (out.set k ((cc+a.getD k 0+b.getD k 0) % 4294967296)):=by
 have hl:=H.len;obtain⟨h1,h2⟩:=aGe ha hb (by omega) H.oz H.c1 H.eq;exact⟨by rw[kV];exact hl,H.od.set _ (Nat.mod_lt _ (by decide)),H.oz.put,h1,h2⟩
theorem aRq(A:OA)(n c:Nat)(B:OA)(m d:Nat)(a0 b0:List Nat)(w:Wo)(ha:jF w w.heap.size A n a0)(hb:jF w w.heap.size B m b0)(YP:Wd a0)(FA:Wd b0)(hn:n<=35184372088832)(hm:m<=35184372088832):Calls Tryz.prog 147 #[.slice A n c,.slice B m d] w (aGk (wv a0+wv b0) w):=by
 obtain⟨HA,HB,OO,MP⟩:=h_ ha hb YP FA;clear ha hb YP FA;go_enter Tryz.func147,Tryz.ntmps147
 go_upto_if 12 with fail
 go_cut [0,1] (fun v0 v1 wc=>wc=w/\∃A n c B m d a b,v0=.slice A n c/\v1=.slice B m d/\jF w w.heap.size A n a/\jF w w.heap.size B m b/\Wd a/\Wd b/\m<=n/\n<=35184372088832/\wv a+wv b=wv a0+wv b0)
 case first=>
  by_cases LP:n<m
  ·go_wp2_with fail
   go_meet
   case rel=>exact⟨rfl,_,_,_,_,_,_,_,_,rfl,rfl,HB.o,HA.o,MP.o,OO.o,by omega,hm,by omega⟩
  ·go_wp2_with fail
   go_meet
   case rel=>exact⟨rfl,_,_,_,_,_,_,_,_,rfl,rfl,HA.o,HB.o,OO.o,MP.o,by omega,hn,rfl⟩
 clear HA HB OO MP hn hm;obtain⟨rfl,A,n,c,B,m,d,a,b,rfl,rfl,ha,hb,YP,FA,hmn,hn,hv⟩:=hcut;obtain⟨HA,HB,OO,MP,HV⟩:=iS ha hb YP FA hv;have B7:=lH ha.len;have oU:=lH hb.len;clear ha hb YP FA hv;generalize wc=w at *;have s_:∀w:World,(Instr.makeSlice 111 (.int .i64 ((n:Int)+1)) (.int .i64 ((n:Int)+1))).run Tryz.prog w=.ok (.slice (some ⟨w.heap.size,0,none⟩) (n+1) (n+1)) (w.alloc (.cells (bN (List.replicate (n+1) 0)).toArray 216)):=fun w=>qC (n+1) (by omega) w;have HK:=lH ((Below.refl w.heap.size w).alloc lR (.cells (bN (List.replicate (n+1) 0)).toArray 216));have HG:=lH (aD.new w 216 (bN (List.replicate (n+1) 0)).toArray)
 go_wp2_with fail
 clear s_;generalize w.alloc (.cells (bN (List.replicate (n+1) 0)).toArray 216)=W at *;generalize hg:w.heap.size=g at *;have mA:=lH hg;clear hg
 go_loopw [6,21] (fun v6 v21 wr=>∃(k cc:Nat)(out:List Nat),k<=n/\v21=.int .i64 k/\v6=.int .u64 cc/\Below g w wr/\aD wr g 216 (bN out).toArray/\OR a b n k cc out) (fun _ v21 _=>n-(intOf v21).toNat)
 case atStart=>exact⟨0,0,_,by omega,rfl,rfl,HK.o,HG.o,⟨by simp,pW _,rZ _ _,by omega,by rw[pU];simp[wv]⟩⟩
 case round=>
  clear HK HG;obtain⟨k,cc,out,hk,rfl,rfl,hb,hg,hI⟩:=hrel;obtain⟨HK,HG,HI⟩:=dZ hb hg hI;clear hb hg hI;have LS:=HI.o.c1;have E8:=HG.o.lt;have FW:=HG.o.frozen;by_cases aR:k<n
  ·obtain⟨ab,ao,AV,lO⟩:=HA.o.form (by omega)
   subst AV;have YN:=(HA.o.lift HK.o (by omega)).at_ aR;have VO:=bY HG.o (i:=k) (by rw[HI.o.len];omega);have HN:=lH (HI.o.step OO.o MP.o aR);have hx:=OO.o.getD k;have hy:=MP.o.getD k;obtain⟨x,S8⟩:∃x,a.getD k 0=x:=⟨_,rfl⟩;obtain⟨y,hyy⟩:∃y,b.getD k 0=y:=⟨_,rfl⟩;have HYY:=lH hyy;rw[S8] at YN hx;rw[hyy] at hy;rw[S8,hyy] at HN;obtain⟨z,l_⟩:∃z,out.getD k 0=z:=⟨_,rfl⟩;rw[l_] at VO;clear S8 hyy l_;have aBi:ab<wr.heap.size:=by omega
   have f_:(k:Int)<(n:Int):=by omega
   by_cases hkm:k<m
   ·obtain⟨bb,bo,LT,yZ⟩:=HB.o.form (by omega)
    subst LT;have hcb:=(HB.o.lift HK.o (by omega)).at_ hkm;rw[HYY.o] at hcb;have aI0:bb<wr.heap.size:=by omega
    have aMs:(k:Int)<(m:Int):=by omega
    (go_wp2_with fail);go_roundw
    case rel=>exact⟨k+1,(cc+x+y) / 4294967296,out.set k ((cc+x+y) % 4294967296),by omega,by go_num,aQ (by omega),HK.o.setCell lR _,eQ HG.o (by omega),HN.o⟩
    case measure=>simp[intOf];omega
   ·have wK:y=0:=by rw[<-HYY.o];exact CC (by rw[oU.o];omega)
    subst wK;have aMs:¬(k:Int)<(m:Int):=by omega
    (go_wp2_with fail);go_roundw
    case rel=>exact⟨k+1,(cc+x+0) / 4294967296,out.set k ((cc+x+0) % 4294967296),by omega,by go_num,aQ (by omega),HK.o.setCell lR _,eQ HG.o (by omega),HN.o⟩
    case measure=>simp[intOf];omega
  ·have mL:k=n:=by omega
   subst mL;have VO:=bY HG.o (i:=k) (by rw[HI.o.len];omega);obtain⟨z,l_⟩:∃z,out.getD k 0=z:=⟨_,rfl⟩;rw[l_] at VO;clear l_;have g1:(k:Int)<(k:Int)+1:=by omega
   have HE:Hid (wv (out.set k cc)=wv a0+wv b0):=lH (by
    rw[ZI (v:=wv a0+wv b0) (by rw[HI.o.len];omega) HI.o.oz];rw[HI.o.eq,nT (by rw[B7.o];exact lR),nT (by rw[oU.o];exact hmn)];exact HV.o)
   have HW:Hid (Wd (out.set k cc)):=lH (HI.o.od.set _ (by omega));have SW:Hid ((out.set k cc).length=k+1):=lH (by rw[kV];exact HI.o.len);(go_wp2_with fail);go_ret;exact LA (by rw[mA.o];exact HK.o.setCell lR _) (eQ HG.o rfl) SW.o HW.o HE.o (by omega) rfl
structure OC (a b:List Nat) (n k:Nat) (cc:Int) (out:List Nat):Prop where
 len:out.length=n
 od:Wd out
 oz:Zf out k
 c1:-1<=cc
 c2:cc<=0
 eq:(wv out:Int)+cc*(BB k:Int)=(wv (a.take k):Int)-(wv (b.take k):Int)
theorem OC.step{b:List Nat}{cc:Int}(H:OC a b n k cc out)(ha:Wd a)(hb:Wd b)(hk:k<n):OC a b n (k+1) ((cc+a.getD k 0-b.getD k 0) / 4294967296) (out.set k ((cc+a.getD k 0-b.getD k 0) % 4294967296).toNat):=by
 have hl:=H.len;obtain⟨h1,h2,h3⟩:=aC7 ha hb (by omega) H.oz H.c1 H.c2 H.eq;exact⟨by rw[kV];exact hl,H.od.set _ (by omega),H.oz.put,h1,h2,h3⟩
theorem aJ7(A:OA)(n c:Nat)(B:OA)(m d:Nat)(a b:List Nat)(w:Wo)(ha:jF w w.heap.size A n a)(hb:jF w w.heap.size B m b)(YP:Wd a)(FA:Wd b)(hn:n<=35184372088832)(hmn:m<=n)(KA:wv b<=wv a):Calls Tryz.prog 149 #[.slice A n c,.slice B m d] w (aGk (wv a-wv b) w):=by
 obtain⟨HA,HB,OO,MP,B7⟩:=iS ha hb YP FA ha.len;have oU:=lH hb.len;have ZT:=lH KA;clear ha hb YP FA KA;have s_:∀w:World,(Instr.makeSlice 111 (.int .i64 (n:Int)) (.int .i64 (n:Int))).run Tryz.prog w=.ok (.slice (some ⟨w.heap.size,0,none⟩) n n) (w.alloc (.cells (bN (List.replicate n 0)).toArray 216)):=fun w=>qC n (by omega) w;have HK:=lH ((Below.refl w.heap.size w).alloc lR (.cells (bN (List.replicate n 0)).toArray 216));have HG:=lH (aD.new w 216 (bN (List.replicate n 0)).toArray);go_enter Tryz.func149,Tryz.ntmps149
 go_wp2_with fail
 clear s_;generalize w.alloc (.cells (bN (List.replicate n 0)).toArray 216)=W at *;generalize hg:w.heap.size=g at *;have mA:=lH hg;clear hg
 go_loopw [6,13] (fun v6 v13 wr=>∃(k:Nat)(cc:Int)(out:List Nat),k<=n/\v13=.int .i64 k/\v6=.int .i64 cc/\Below g w wr/\aD wr g 216 (bN out).toArray/\OC a b n k cc out) (fun _ v13 _=>n-(intOf v13).toNat)
 case atStart=>exact⟨0,0,_,by omega,rfl,rfl,HK.o,HG.o,⟨by simp,pW _,rZ _ _,by omega,by omega,by rw[pU];simp[wv]⟩⟩
 case round=>
  clear HK HG;obtain⟨k,cc,out,hk,rfl,rfl,hb,hg,hI⟩:=hrel;obtain⟨HK,HG,HI⟩:=dZ hb hg hI;clear hb hg hI;have LS:=HI.o.c1;have a3y:=HI.o.c2;have E8:=HG.o.lt;have FW:=HG.o.frozen;by_cases aR:k<n
  ·obtain⟨ab,ao,AV,lO⟩:=HA.o.form (by omega)
   subst AV;have YN:=(HA.o.lift HK.o (by omega)).at_ aR;have VO:=bY HG.o (i:=k) (by rw[HI.o.len];omega);have HN:=lH (HI.o.step OO.o MP.o aR);have hx:=OO.o.getD k;have hy:=MP.o.getD k;obtain⟨x,S8⟩:∃x,a.getD k 0=x:=⟨_,rfl⟩;obtain⟨y,hyy⟩:∃y,b.getD k 0=y:=⟨_,rfl⟩;have HYY:=lH hyy;rw[S8] at YN hx;rw[hyy] at hy;rw[S8,hyy] at HN;obtain⟨z,l_⟩:∃z,out.getD k 0=z:=⟨_,rfl⟩;rw[l_] at VO;clear S8 hyy l_;have aBi:ab<wr.heap.size:=by omega
   have f_:(k:Int)<(n:Int):=by omega
   by_cases hkm:k<m
   ·obtain⟨bb,bo,LT,yZ⟩:=HB.o.form (by omega)
    subst LT;have hcb:=(HB.o.lift HK.o (by omega)).at_ hkm;rw[HYY.o] at hcb;have aI0:bb<wr.heap.size:=by omega
    have aMs:(k:Int)<(m:Int):=by omega
    (go_wp2_with fail);go_roundw
    case rel=>exact⟨k+1,_,_,by omega,by go_num,aQ (by omega),HK.o.setCell lR _,eQ HG.o (by omega),HN.o⟩
    case measure=>simp[intOf];omega
   ·have wK:y=0:=by rw[<-HYY.o];exact CC (by rw[oU.o];omega)
    subst wK;have aMs:¬(k:Int)<(m:Int):=by omega
    (go_wp2_with fail);go_roundw
    case rel=>exact⟨k+1,_,_,by omega,by go_num,aQ (by omega),HK.o.setCell lR _,eQ HG.o (by omega),HN.o⟩
    case measure=>simp[intOf];omega
  ·have mL:k=n:=by omega
   subst mL;have HE:Hid (wv out=wv a-wv b):=lH (by
    have h:=HI.o.eq;rw[nT (by rw[B7.o];exact lR),nT (by rw[oU.o];exact hmn)] at h;rw[<-HI.o.len] at h;exact aHO HI.o.c1 HI.o.c2 HI.o.od ZT.o h)
   (go_wp2_with fail);go_ret;exact LA (by rw[mA.o];exact HK.o) HG.o HI.o.len HI.o.od HE.o (by omega) rfl
structure OD (a:List Nat) (n d k r:Nat) (out:List Nat):Prop where
 len:out.length=n
 od:Wd out
 rd:r<d
 eq:wv (a.drop k)=d*wv (out.drop k)+r
theorem OD.step{r:Nat}(H:OD a n d (k+1) r out)(ha:Wd a)(hl:a.length=n)(hd:0<d)(hd2:d<4294967296)(hk:k<n):(r*4294967296+a.getD k 0) / d<4294967296/\OD a n d k ((r*4294967296+a.getD k 0) % d) (out.set k ((r*4294967296+a.getD k 0) / d)):=by
 have hl2:=H.len;obtain⟨h1,h2⟩:=aAq ha (by omega) hd hd2 H.rd (by omega) H.eq;exact⟨h1,by rw[kV];exact hl2,H.od.set _ h1,Nat.mod_lt _ hd,h2⟩
def aRw(v d:Nat)(w:Wo)(e:Ending)(w':Wo):Prop:=Below w.heap.size w w'/\∃g n l,e=.returned (.tuple #[.slice (some ⟨g,0,none⟩) n n,.int .u32 ((v % d:Nat):Int)])/\jF w' w'.heap.size (some ⟨g,0,none⟩) n l/\Wd l/\wv l=v / d/\n<=35184372088832/\w.heap.size<=g
theorem aHX{v:Nat}{r:Nat}(hb:Below w.heap.size w w')(hg:aD w' g t (bN l).toArray)(hl:l.length=n)(hd:Wd l)(hn:n<=35184372088832)(hgw:w.heap.size<=g)(hr:r<d)(hv:v=d*wv l+r)(he:e=.returned (.tuple #[.slice (some ⟨g,0,none⟩) n n,.int .u32 (r:Int)])):aRw v d w e w':=by
 have h1:v / d=wv l:=by rw[hv,Nat.mul_add_div (by omega),Nat.div_eq_of_lt hr,Nat.add_zero]
 have h2:v % d=r:=by rw[hv,Nat.mul_add_mod,Nat.mod_eq_of_lt hr]
 refine⟨hb,g,n,l,by rw[he,h2],by subst hl;exact rE hg,hd,h1.symm,hn,hgw⟩
theorem aJ9(A:OA)(n c:Nat)(d:Nat)(a:List Nat)(w:Wo)(ha:jF w w.heap.size A n a)(YP:Wd a)(hn:n<=35184372088832)(hd:0<d)(hd2:d<4294967296):Calls Tryz.prog 150 #[.slice A n c,.int .u32 (d:Int)] w (aRw (wv a) d w):=by
 obtain⟨HA,OO,B7⟩:=dZ ha YP ha.len;clear ha YP;have s_:∀w:World,(Instr.makeSlice 111 (.int .i64 (n:Int)) (.int .i64 (n:Int))).run Tryz.prog w=.ok (.slice (some ⟨w.heap.size,0,none⟩) n n) (w.alloc (.cells (bN (List.replicate n 0)).toArray 216)):=fun w=>qC n (by omega) w;have HK:=lH ((Below.refl w.heap.size w).alloc lR (.cells (bN (List.replicate n 0)).toArray 216));have HG:=lH (aD.new w 216 (bN (List.replicate n 0)).toArray);go_enter Tryz.func150,Tryz.ntmps150
 go_wp2_with fail
 clear s_;generalize w.alloc (.cells (bN (List.replicate n 0)).toArray 216)=W at *;generalize hg:w.heap.size=g at *;have mA:=lH hg;clear hg
 go_loopw [7,8] (fun v7 v8 wr=>∃(k r:Nat)(out:List Nat),k<=n/\v8=.int .i64 ((k:Int)-1)/\v7=.int .u64 r/\Below g w wr/\aD wr g 216 (bN out).toArray/\OD a n d k r out) (fun _ v8 _=>(intOf v8+1).toNat)
 case atStart=>exact⟨n,0,_,lR,rfl,rfl,HK.o,HG.o,⟨by simp,pW _,hd,by rw[List.drop_eq_nil_of_le (by rw[B7.o];exact lR),List.drop_eq_nil_of_le (by simp)];simp[wv]⟩⟩
 case round=>
  clear HK HG;obtain⟨k,r,out,hk,rfl,rfl,hb,hg,hI⟩:=hrel;obtain⟨HK,HG,HI⟩:=dZ hb hg hI;clear hb hg hI;have E8:=HG.o.lt;have FW:=HG.o.frozen;have oP:=HI.o.rd;by_cases h0:k=0
  ·subst h0
   have HE:Hid (wv a=d*wv out+r):=lH (by have:=HI.o.eq;simpa using this);have e:(((0:Nat):Int)-1)=-1:=rfl;rw[e];clear e;(go_wp2_with fail);go_ret2;exact aHX (by rw[mA.o];exact HK.o) HG.o HI.o.len HI.o.od hn (by rw[mA.o];exact lR) HI.o.rd HE.o rfl
  ·obtain⟨j,rfl⟩:∃j,k=j+1:=⟨k-1,by omega⟩
   have e:(((j+1:Nat):Int)-1)=(j:Int):=by omega
   rw[e];clear e h0;have hj:j<n:=hk;obtain⟨ab,ao,AV,lO⟩:=HA.o.form (by omega);subst AV;have YN:=(HA.o.lift HK.o (by omega)).at_ hj;have VO:=bY HG.o (i:=j) (by rw[HI.o.len];omega);have HN:=lH (HI.o.step OO.o B7.o hd hd2 hj);have hx:=OO.o.getD j;obtain⟨x,S8⟩:∃x,a.getD j 0=x:=⟨_,rfl⟩;rw[S8] at YN hx HN;obtain⟨z,l_⟩:∃z,out.getD j 0=z:=⟨_,rfl⟩;rw[l_] at VO;clear S8 l_;have aBi:ab<wr.heap.size:=by omega
   have hjI:(j:Int)<(n:Int):=by omega
   have aL9:r<4294967296:=by omega
   have hor:bits BinOp.or IntKind.u64 ((r:Int)*4294967296) (x:Int)=((r*4294967296+x:Nat):Int):=AH r x 32 (by omega) aL9 hx;have hsl:r*4294967296+x<18446744073709551616:=by omega
   generalize r*4294967296+x=s at hor hsl HN;have htm:=O3 s d;have htd:=O5 s d;have hql:=HN.o.1;have iD:=lH HN.o.2;clear HN;generalize s / d=q at *;generalize s % d=t at *;have hwq:IntKind.u64.wrap (q:Int)=(q:Int):=Go.IntWalk.u64_in _ (by omega);(go_wp2_with fail);go_roundw
   case rel=>exact⟨j,t,_,by omega,rfl,rfl,HK.o.setCell lR _,eQ HG.o (by omega),iD.o⟩
   case measure=>simp[intOf]
structure ZK (a:List Nat) (n s k cc:Nat) (out:List Nat):Prop where
 len:out.length=n+1
 od:Wd out
 oz:Zf out k
 c1:cc<2^s
 eq:wv out+cc*BB k=wv (a.take k)*2^s
theorem ZK.step{s:Nat}(H:ZK a n s k cc out)(ha:Wd a)(hs:s<=31)(hk:k<n):cc+a.getD k 0*2^s<18446744073709551616/\ZK a n s (k+1) ((cc+a.getD k 0*2^s) / 4294967296) (out.set k ((cc+a.getD k 0*2^s) % 4294967296)):=by
 have hl:=H.len;obtain⟨h1,h2,h3⟩:=aHT ha hs (by omega) H.oz H.c1 H.eq;exact⟨h1,by rw[kV];exact hl,H.od.set _ (Nat.mod_lt _ (by decide)),H.oz.put,h2,h3⟩
def aRz(v n:Nat)(w:Wo)(e:Ending)(w':Wo):Prop:=Below w.heap.size w w'/\∃g l,e=.returned (.slice (some ⟨g,0,none⟩) n n)/\w.heap.size<=g/\aD w' g 216 (bN l).toArray/\Wd l/\wv l=v/\l.length=n
theorem shW(A:OA)(n c:Nat)(s:Nat)(a:List Nat)(w:Wo)(ha:jF w w.heap.size A n a)(YP:Wd a)(hn:n<=35184372088832)(hs:s<=31):Calls Tryz.prog 190 #[.slice A n c,.int .i64 (s:Int)] w (aRz (wv a*2^s) (n+1) w):=by
 obtain⟨HA,OO,B7⟩:=dZ ha YP ha.len;clear ha YP;have s_:∀w:World,(Instr.makeSlice 111 (.int .i64 ((n:Int)+1)) (.int .i64 ((n:Int)+1))).run Tryz.prog w=.ok (.slice (some ⟨w.heap.size,0,none⟩) (n+1) (n+1)) (w.alloc (.cells (bN (List.replicate (n+1) 0)).toArray 216)):=fun w=>qC (n+1) (by omega) w;have HK:=lH ((Below.refl w.heap.size w).alloc lR (.cells (bN (List.replicate (n+1) 0)).toArray 216));have HG:=lH (aD.new w 216 (bN (List.replicate (n+1) 0)).toArray);go_enter Tryz.func190,Tryz.ntmps190
 go_wp2_with fail
 clear s_;generalize w.alloc (.cells (bN (List.replicate (n+1) 0)).toArray 216)=W at *;generalize hg:w.heap.size=g at *;have mA:=lH hg;clear hg;have HP:Hid (0<2^s):=lH (Nat.pow_pos (by decide))
 go_loopw [6,15] (fun v6 v15 wr=>∃(k cc:Nat)(out:List Nat),k<=n/\v15=.int .i64 k/\v6=.int .u64 cc/\Below g w wr/\aD wr g 216 (bN out).toArray/\ZK a n s k cc out) (fun _ v15 _=>n-(intOf v15).toNat)
 case atStart=>exact⟨0,0,_,by omega,rfl,rfl,HK.o,HG.o,⟨by simp,pW _,rZ _ _,HP.o,by rw[pU];simp[wv]⟩⟩
 case round=>
  clear HK HG;obtain⟨k,cc,out,hk,rfl,rfl,hb,hg,hI⟩:=hrel;obtain⟨HK,HG,HI⟩:=dZ hb hg hI;clear hb hg hI;have LS:=HI.o.c1;have E8:=HG.o.lt;have FW:=HG.o.frozen;by_cases aR:k<n
  ·obtain⟨ab,ao,AV,lO⟩:=HA.o.form (by omega)
   subst AV;have YN:=(HA.o.lift HK.o (by omega)).at_ aR;have VO:=bY HG.o (i:=k) (by rw[HI.o.len];omega);have HN:=lH (HI.o.step OO.o hs aR);have hx:=OO.o.getD k;obtain⟨x,S8⟩:∃x,a.getD k 0=x:=⟨_,rfl⟩;rw[S8] at YN hx HN;obtain⟨z,l_⟩:∃z,out.getD k 0=z:=⟨_,rfl⟩;rw[l_] at VO;clear S8 l_;have aBi:ab<wr.heap.size:=by omega
   have f_:(k:Int)<(n:Int):=by omega
   have HOR:=lH (aDR cc x s LS HN.o.1);have iD:=lH HN.o.2;clear LS;(go_wp2_with fail);rw[HOR.o];generalize cc+x*2^s=t at *;go_roundw
   case rel=>exact⟨k+1,_,_,by omega,by go_num,aQ (by omega),HK.o.setCell lR _,eQ HG.o (by omega),iD.o⟩
   case measure=>simp[intOf];omega
  ·have mL:k=n:=by omega
   subst mL;have VO:=bY HG.o (i:=k) (by rw[HI.o.len];omega);obtain⟨z,l_⟩:∃z,out.getD k 0=z:=⟨_,rfl⟩;rw[l_] at VO;clear l_;have aWd:cc<4294967296:=kA LS (b_ (Nat.pow_le_pow_right (by decide) hs) (by decide));have HE:Hid (wv (out.set k cc)=wv a*2^s):=lH (by
    rw[ZI (v:=wv a*2^s) (by rw[HI.o.len];omega) HI.o.oz];rw[HI.o.eq,nT (by rw[B7.o];exact lR)])
   have HW:Hid (Wd (out.set k cc)):=lH (HI.o.od.set _ aWd);have SW:Hid ((out.set k cc).length=k+1):=lH (by rw[kV];exact HI.o.len);have g1:(k:Int)<(k:Int)+1:=by omega
   clear LS;(go_wp2_with fail);go_ret;exact⟨by rw[mA.o];exact HK.o.setCell lR _,g,_,rfl,Nat.le_of_eq mA.o,eQ HG.o rfl,HW.o,HE.o,SW.o⟩
structure aGl (a b:List Nat) (n m i:Nat) (out:List Nat):Prop where
 len:out.length=n+m
 od:Wd out
 oz:Zf out (i+m)
 eq:wv out=wv (a.take i)*wv b
structure I8 (a b:List Nat) (n m i x k cc:Nat) (out:List Nat):Prop where
 len:out.length=n+m
 od:Wd out
 oz:Zf out (i+m)
 cl:cc<4294967296
 eq:wv out+cc*BB (i+k)=wv (a.take i)*wv b+x*wv (b.take k)*BB i
theorem I8.step{b:List Nat}(H:I8 a b n m i x k cc out)(hb:Wd b)(hx:x<4294967296)(hi:i<n)(hk:k<m):cc+out.getD (i+k) 0+x*b.getD k 0<18446744073709551616/\I8 a b n m i x (k+1) ((cc+out.getD (i+k) 0+x*b.getD k 0) / 4294967296) (out.set (i+k) ((cc+out.getD (i+k) 0+x*b.getD k 0) % 4294967296)):=by
 have hl:=H.len;obtain⟨h1,h2,h3⟩:=aD5 hb H.od hx H.cl (by omega) H.eq;exact⟨h1,by rw[kV];exact hl,H.od.set _ (Nat.mod_lt _ (by decide)),H.oz.set (by omega),h2,h3⟩
theorem I8.done{b:List Nat}(H:I8 a b n m i (a.getD i 0) m cc out)(qL:b.length=m)(hi:i<n):aGl a b n m (i+1) (out.set (i+m) cc):=by
 have hl:=H.len;have he:=H.eq;refine⟨by rw[kV];exact hl,H.od.set _ H.cl,?_,?_⟩
 ·have:=H.oz.put (x:=cc)
  rwa[show i+m+1=i+1+m from by omega] at this
 ·subst qL
  rw[nT lR] at he;exact aIm (by omega) H.oz he
theorem aHU(y z:Int):CK (decide (y<0) != decide (z<0)) (y.natAbs*z.natAbs)=y*z:=by
 rw[<-Int.natAbs_mul];unfold CK;rcases Int.lt_trichotomy y 0 with hy | hy | hy
 ·rcases Int.lt_trichotomy z 0 with hz | hz | hz
  ·have:=Int.mul_pos_of_neg_of_neg hy hz
   rw[if_neg (by simp[hy,hz])];omega
  ·subst hz;simp
  ·have:=Int.mul_neg_of_neg_of_pos hy hz
   rw[if_pos (by simp[hy];omega)];omega
 ·subst hy;simp
 ·rcases Int.lt_trichotomy z 0 with hz | hz | hz
  ·have:=Int.mul_neg_of_pos_of_neg hy hz
   rw[if_pos (by simp[hz];omega)];omega
  ·subst hz;simp
  ·have:=Int.mul_pos hy hz
   rw[if_neg (by simp;omega)];omega
theorem i_(y z:Int)(b1:Bool)(A:OA)(n c:Nat)(b2:Bool)(B:OA)(m d:Nat)(w:Wo)(h1:bW w w.heap.size y b1 A n c)(h2:bW w w.heap.size z b2 B m d)(LP:n+m<=35184372088832):Calls Tryz.prog 115 #[.agg #[.bool b1,.slice A n c],.agg #[.bool b2,.slice B m d]] w (LgP (y*z) w):=by
 have eD:Hid (Below w.heap.size w ((((w.alloc (aN b1 A n c)).alloc (aN b2 B m d)).alloc cP).alloc (.cells (bN (List.replicate (n+m) 0)).toArray 216))):=lH (((bA).alloc (by simp) _).alloc (by simp;omega) _ |>.alloc (by simp;omega) _);have fB:Hid (aD ((((w.alloc (aN b1 A n c)).alloc (aN b2 B m d)).alloc cP).alloc (.cells (bN (List.replicate (n+m) 0)).toArray 216)) w.heap.size 113 #[.bool b1,.slice A n c]):=lH ((((aD.new w _ _).alloc _).alloc _).alloc _);have gG:Hid (aD ((((w.alloc (aN b1 A n c)).alloc (aN b2 B m d)).alloc cP).alloc (.cells (bN (List.replicate (n+m) 0)).toArray 216)) (w.heap.size+1) 113 #[.bool b2,.slice B m d]):=lH (((aD.new_ (by simp)).alloc _).alloc _);have HR:Hid (aD ((((w.alloc (aN b1 A n c)).alloc (aN b2 B m d)).alloc cP).alloc (.cells (bN (List.replicate (n+m) 0)).toArray 216)) (w.heap.size+1+1) 113 #[.bool false,.slice none 0 0]):=lH ((aD.new_ (by simp)).alloc _);have HG:Hid (aD ((((w.alloc (aN b1 A n c)).alloc (aN b2 B m d)).alloc cP).alloc (.cells (bN (List.replicate (n+m) 0)).toArray 216)) (w.heap.size+1+1+1) 216 (bN (List.replicate (n+m) 0)).toArray):=lH (aD.new_ (by simp));have HA:Hid (jF ((((w.alloc (aN b1 A n c)).alloc (aN b2 B m d)).alloc cP).alloc (.cells (bN (List.replicate (n+m) 0)).toArray 216)) w.heap.size A n (j_ y.natAbs)):=lH (h1.rd.below eD.o lR);have HB:Hid (jF ((((w.alloc (aN b1 A n c)).alloc (aN b2 B m d)).alloc cP).alloc (.cells (bN (List.replicate (n+m) 0)).toArray 216)) w.heap.size B m (j_ z.natAbs)):=lH (h2.rd.below eD.o lR);have ZY:=lH h1.eb;have TI:=lH h2.eb;have B7:Hid ((j_ y.natAbs).length=n):=lH h1.en.symm;have oU:Hid ((j_ z.natAbs).length=m):=lH h2.en.symm;have HWA:Hid (wv (j_ y.natAbs)=y.natAbs):=lH (dV _);have F1:Hid (wv (j_ z.natAbs)=z.natAbs):=lH (dV _);have OO:=lH (gU y.natAbs);have MP:=lH (gU z.natAbs);generalize j_ y.natAbs=a at *;generalize j_ z.natAbs=b at *;clear h1 h2;have s_:∀w:World,(Instr.makeSlice 111 (.int .i64 ((n:Int)+(m:Int))) (.int .i64 ((n:Int)+(m:Int)))).run Tryz.prog w=.ok (.slice (some ⟨w.heap.size,0,none⟩) (n+m) (n+m)) (w.alloc (.cells (bN (List.replicate (n+m) 0)).toArray 216)):=fun w=>by
  have:=qC (n+m) (by omega) w;rwa[Int.natCast_add] at this
 go_enter Tryz.func115,Tryz.ntmps115
 go_upto_region 2 with fail
 clear s_;generalize ((((w.alloc (aN b1 A n c)).alloc (aN b2 B m d)).alloc cP).alloc (.cells (bN (List.replicate (n+m) 0)).toArray 216))=W at *;generalize hg:w.heap.size=g at *;have mA:=lH hg;clear hg;obtain⟨p0,p1,pl⟩:=fB.o.b2;obtain⟨q0,q1,ql⟩:=gG.o.b2;have hG1:=HG.o.lt;have HK0:=lH (Below.refl (g+1+1+1) W)
 go_wp2_with fail
 clear p0 p1 q0 q1
 go_loopw [22] (fun v22 wr=>∃(i:Nat)(out:List Nat),i<=n/\v22=.int .i64 i/\Below (g+1+1+1) W wr/\aD wr (g+1+1+1) 216 (bN out).toArray/\aGl a b n m i out) (fun v22 _=>n-(intOf v22).toNat)
 case atStart=>exact⟨0,_,by omega,rfl,HK0.o,HG.o,⟨by simp,pW _,rZ _ _,by rw[pU];simp[wv]⟩⟩
 case round=>
  clear HK0 HG;obtain⟨i,out,hi,rfl,hb,hg,hI⟩:=hrel;obtain⟨HK,HG,HI⟩:=dZ hb hg hI;clear hb hg hI;have E8:=HG.o.lt;have FW:=HG.o.frozen;have p0:=(fB.o.below HK.o (by omega)).cell 0;have p1:=(fB.o.below HK.o (by omega)).cell 1;have q0:=(gG.o.below HK.o (by omega)).cell 0;have q1:=(gG.o.below HK.o (by omega)).cell 1;have pl2:g<wr.heap.size:=by omega
  have ql2:g+1<wr.heap.size:=by omega
  by_cases aR:i<n
  ·obtain⟨ab,ao,AV,lO⟩:=HA.o.form (by omega)
   subst AV;have YN:=((HA.o.more (show g<=g+1+1+1 by omega)).lift HK.o (by omega)).at_ aR;have hx:=OO.o.getD i;have HDN:=lH (fun(cc:Nat)(out:List Nat) (H:I8 a b n m i (a.getD i 0) m cc out)=>H.done oU.o aR);obtain⟨x,S8⟩:∃x,a.getD i 0=x:=⟨_,rfl⟩;rw[S8] at YN hx HDN;clear S8;have aBi:ab<wr.heap.size:=by omega
   have BS:(i:Int)<(n:Int):=by omega
   (go_wp2_with fail);clear p0 p1 q0 q1 YN FW;obtain⟨wo,rfl⟩:∃wo:World,wo=wr:=⟨_,rfl⟩
   go_loopw [8,30] (fun v8 v30 wr=>∃(k cc:Nat)(out:List Nat),k<=m/\v30=.int .i64 k/\v8=.int .u64 cc/\Below (g+1+1+1) W wr/\aD wr (g+1+1+1) 216 (bN out).toArray/\I8 a b n m i x k cc out) (fun _ v30 _=>m-(intOf v30).toNat)
   case atStart=>exact⟨0,0,_,by omega,rfl,rfl,HK.o,HG.o,⟨HI.o.len,HI.o.od,HI.o.oz,by decide,by rw[HI.o.eq];simp[wv]⟩⟩
   case round=>
    clear HK HG HI;obtain⟨k,cc,out,hk,rfl,rfl,hb,hg,hI⟩:=hrel;obtain⟨HK,HG,HI⟩:=dZ hb hg hI;clear hb hg hI;have E8:=HG.o.lt;have FW:=HG.o.frozen;have wQ:=HI.o.cl;by_cases hlk:k<m
    ·obtain⟨bb,bo,LT,yZ⟩:=HB.o.form (by omega)
     subst LT;have hcb:=((HB.o.more (show g<=g+1+1+1 by omega)).lift HK.o (by omega)).at_ hlk;have hy:=MP.o.getD k;have hz:=HI.o.od.getD (i+k);have VO:=bY HG.o (i:=i+k) (by rw[HI.o.len];omega);have HN:=lH (HI.o.step MP.o hx aR hlk);obtain⟨y2,hyy⟩:∃y,b.getD k 0=y:=⟨_,rfl⟩;rw[hyy] at hcb hy HN;obtain⟨z2,l_⟩:∃y,out.getD (i+k) 0=y:=⟨_,rfl⟩;rw[l_] at VO hz HN;clear hyy l_;have hpr:x*y2<=4294967295*4294967295:=Nat.mul_le_mul (by omega) (by omega);have aEP:IntKind.u64.wrap ((x:Int)*(y2:Int))=((x*y2:Nat):Int):=by rw[<-Int.natCast_mul];exact Go.IntWalk.u64_in _ (by omega)
     have vH:=HN.o.1;have iD:=lH HN.o.2;clear HN;generalize x*y2=pr at *;have aI0:bb<wr.heap.size:=by omega
     have f_:(k:Int)<(m:Int):=by omega
     have aUS:IntKind.i64.wrap ((i:Int)+(k:Int))=((i+k:Nat):Int):=by rw[<-Int.natCast_add];exact Go.IntWalk.i64_in _ (by omega)
     have aQK:(i:Int)+(k:Int)<(n:Int)+(m:Int):=by omega
     have aVE:((i:Int)+(k:Int)).toNat=i+k:=by omega
     (go_wp2_with fail);go_roundw
     case rel=>exact⟨k+1,_,_,by omega,by go_num,aQ (by omega),HK.o.setCell lR _,eQ HG.o (by omega),iD.o⟩
     case measure=>simp[intOf];omega
    ·have mL:k=m:=by omega
     subst mL;have HD2:=lH (HDN.o cc out HI.o);have p0:=(fB.o.below HK.o (by omega)).cell 0;have p1:=(fB.o.below HK.o (by omega)).cell 1;have q0:=(gG.o.below HK.o (by omega)).cell 0;have q1:=(gG.o.below HK.o (by omega)).cell 1;have pl2:g<wr.heap.size:=by omega
     have ql2:g+1<wr.heap.size:=by omega
     have hz:=HI.o.od.getD (i+k);have VO:=bY HG.o (i:=i+k) (by rw[HI.o.len];omega);obtain⟨z2,l_⟩:∃y,out.getD (i+k) 0=y:=⟨_,rfl⟩;rw[l_] at VO hz;clear l_;have aQK:(i:Int)+(k:Int)<(n:Int)+(k:Int):=by omega
     have aVE:((i:Int)+(k:Int)).toNat=i+k:=by omega
     (go_wp2_with fail);clear p0 p1 q0 q1;go_roundw
     case rel=>exact⟨i+1,_,by omega,by go_num,HK.o.setCell lR _,eQ HG.o rfl,HD2.o⟩
     case measure=>simp[intOf];omega
  ·have EH:i=n:=by omega
   subst EH;have HE:Hid (wv out=y.natAbs*z.natAbs):=lH (by rw[HI.o.eq,nT (by rw[B7.o];exact lR),HWA.o,F1.o]);have SW:Hid (out.length=i+m):=lH HI.o.len;have tC:=lH (HR.o.below HK.o (by omega));have gT:Hid (Below w.heap.size w wr):=lH (by rw[mA.o];exact eD.o.trans (HK.o.mono (by omega)));(go_wp2_with fail);clear p0 p1 q0 q1;refine(jV (b1 != b2) (some ⟨g+1+1+1,0,none⟩) (i+m) (i+m) out wr (by have:=rE HG.o;rwa[SW.o] at this) HI.o.od lR (by omega)).mono ?_;rw[HE.o,ZY.o,TI.o,aHU];rintro e w2 ⟨k,b9,A9,n9,c9,rfl,h9⟩;have dN:=cJ gT k;have jA:=lH (tC.o.bl k);have H2:=lH h9;have mO:w.heap.size<=g+1+1:=by have:=mA.o;omega
   clear k h9;obtain⟨z0,z1,zf,zl⟩:=jA.o.e2;(go_wp2_with fail);generalize fG:(w2.setCell ⟨_,0,none⟩ _).setCell ⟨_,1,none⟩ _=W9;have iZ:=lH (oX (e:=.returned (.agg #[.bool b9,.slice A9 n9 c9])) dN.o mO jA.o (by simp) (by simp) H2.o rfl);rw[fG] at iZ;have fH:Hid (aD W9 _ 113 #[.bool b9,.slice A9 n9 c9]):=lH (by rw[<-fG];exact bV jA.o);clear fG z0 z1 zf zl;obtain⟨q0,q1⟩:=fH.o.a2;exact bodyPost_ret (v:=.agg #[.bool b9,.slice A9 n9 c9]) (by simp[results,Tryz.results115,go_sem,q0,q1]) rfl iZ.o
theorem aHV{y:Int}(h:decide (y<0)=decide (z<0)):CK (decide (y<0)) (y.natAbs+z.natAbs)=y+z:=by
 unfold CK;have h2:(y<0)<->(z<0):=by simpa using h
 by_cases hy:y<0
 ·rw[if_pos (by simpa using hy)];omega
 ·rw[if_neg (by simpa using hy)];omega
theorem XR{y:Int}(h:decide (y<0)≠decide (z<0))(KA:z.natAbs<=y.natAbs):CK (decide (y<0)) (y.natAbs-z.natAbs)=y+z:=by
 unfold CK;by_cases hy:y<0<;>by_cases hz:z<0
 ·exact absurd (by simp[hy,hz]) h
 ·rw[if_pos (by simpa using hy)];omega
 ·rw[if_neg (by simpa using hy)];omega
 ·exact absurd (by simp[hy,hz]) h
theorem N_(y z:Int)(b1:Bool)(A:OA)(n c:Nat)(b2:Bool)(B:OA)(m d:Nat)(w:Wo)(h1:bW w w.heap.size y b1 A n c)(h2:bW w w.heap.size z b2 B m d)(hn:n<=35184372088832)(hm:m<=35184372088832):Calls Tryz.prog 116 #[.agg #[.bool b1,.slice A n c],.agg #[.bool b2,.slice B m d]] w (LgP (y+z) w):=by
 have he1:=h1.eb;have he2:=h2.eb;have hny:=h1.en;have hmz:=h2.en;have eD:Hid (Below w.heap.size w (((w.alloc (aN b1 A n c)).alloc (aN b2 B m d)).alloc cP)):=lH (((bA).alloc (by simp) _).alloc (by simp;omega) _);have fB:Hid (aD (((w.alloc (aN b1 A n c)).alloc (aN b2 B m d)).alloc cP) w.heap.size 113 #[.bool b1,.slice A n c]):=lH (((aD.new w _ _).alloc _).alloc _);have gG:Hid (aD (((w.alloc (aN b1 A n c)).alloc (aN b2 B m d)).alloc cP) (w.heap.size+1) 113 #[.bool b2,.slice B m d]):=lH ((aD.new_ (by simp)).alloc _);have HR:Hid (aD (((w.alloc (aN b1 A n c)).alloc (aN b2 B m d)).alloc cP) (w.heap.size+1+1) 113 #[.bool false,.slice none 0 0]):=lH (aD.new_ (by simp));have H1:=lH (h1.up eD.o);have H2:=lH (h2.up eD.o);clear h1 h2;have HNY:=lH hny;have HMZ:=lH hmz;clear hny hmz;go_enter Tryz.func116,Tryz.ntmps116
 have mO:w.heap.size<=w.heap.size+1+1:=by omega
 by_cases hb:b1=b2
 ·have HSG:Hid (CK b1 (wv (j_ y.natAbs)+wv (j_ z.natAbs))=y+z):=lH (by rw[dV,dV,he1];exact aHV (by rw[<-he1,<-he2,hb]))
  have yZ:(b1 == b2)=true:=by simp[hb]
  clear he1 he2 hb;(go_wp2_with fail);generalize (((w.alloc (aN b1 A n c)).alloc (aN b2 B m d)).alloc cP)=W at *;obtain⟨p0,p1,pl⟩:=fB.o.b2;obtain⟨q0,q1,ql⟩:=gG.o.b2;have H1W:Hid (jF W.drew W.drew.heap.size A n (j_ y.natAbs)):=lH H1.o.rd;have H2W:Hid (jF W.drew W.drew.heap.size B m (j_ z.natAbs)):=lH H2.o.rd;have gT:=eD;have tC:=HR;clear eD HR;refine kQ 8 (fun hHeld=>?_);simp only[m_,List.take_zero];refine cR [0,1,2,3,4,5] ?_;refine bI 6 (fun K hK=>?_);go_simp;refine(aRq A n c B m d (j_ y.natAbs) (j_ z.natAbs) W.drew H1W.o H2W.o (gU _) (gU _) (by omega) (by omega)).mono ?_;rintro e w5 ⟨eJ,A5,n5,c5,l5,rfl,xG,hd5,NQ,hn5,hc5⟩;obtain⟨d_,HR5,TF,HD5⟩:=h_ ((aI (Below.refl W.heap.size W)).trans eJ) xG NQ hd5;clear eJ xG NQ hd5;go_simp;refine iB hK d_.o (fun hHeld=>?_);clear hK K;refine bI 7 (fun K hK=>?_);go_simp;refine(jV b1 A5 n5 c5 l5 w5 HR5.o HD5.o hn5 hc5).mono ?_;rw[TF.o,HSG.o];rintro e w6 ⟨gA,b9,A9,n9,c9,rfl,h9⟩;have gQ:=cJ d_ gA;have H9:=lH h9;clear gA h9;go_simp;refine iB hK gQ.o (fun hHeld=>?_);clear hK K;refine eP ?_;have o3:=lH (gT.o.tm gQ.o);have lF:=lH (tC.o.bl gQ.o);clear p0 p1 q0 q1 pl ql;obtain⟨z0,z1,zf,zl⟩:=lF.o.e2;(go_wp2_with fail);generalize fG:(w6.setCell ⟨_,0,none⟩ _).setCell ⟨_,1,none⟩ _=W9;have iZ:=lH (oX (e:=.returned (.agg #[.bool b9,.slice A9 n9 c9])) o3.o mO lF.o (by simp) (by simp) H9.o rfl);rw[fG] at iZ;have fH:Hid (aD W9 _ 113 #[.bool b9,.slice A9 n9 c9]):=lH (by rw[<-fG];exact bV lF.o);clear fG z0 z1 zf zl;obtain⟨q0,q1⟩:=fH.o.a2;exact bodyPost_ret (v:=.agg #[.bool b9,.slice A9 n9 c9]) (by simp[results,Tryz.results116,go_sem,q0,q1]) rfl iZ.o
 ·have yZ:(b1 == b2)=false:=by simpa using hb
  have JY:Hid (decide (y<0)≠decide (z<0)):=lH (by rw[<-he1,<-he2];exact hb);have aYL:=lH he1;have aYK:=lH he2;clear he1 he2 hb;(go_wp2_with fail);generalize (((w.alloc (aN b1 A n c)).alloc (aN b2 B m d)).alloc cP)=W at *;refine(SA A n c B m d y.natAbs z.natAbs W H1.o.rd H2.o.rd (by omega) (by omega)).mono ?_;rintro e w4 ⟨⟨r,rfl,hr⟩,nq,rfl⟩;have JS:Below W.heap.size W (W.drewN nq):=bF bR nq;have cI:=cJ eD JS;obtain⟨aNl,aRL,HRb,H1b,H2b⟩:=iS (fB.o.bl JS) (gG.o.bl JS) (HR.o.bl JS) (H1.o.up JS) (H2.o.up JS);clear JS eD fB gG HR H1 H2;have eD:=cI;have fB:=aNl;have gG:=aRL;have HR:=HRb;have H1:=H1b;have H2:=H2b;generalize W.drewN nq=V at *;obtain⟨p0,p1,pl⟩:=fB.o.b2;obtain⟨q0,q1,ql⟩:=gG.o.b2;by_cases gC:r<0
  ·have ZT:Hid (y.natAbs<=z.natAbs):=lH (oO (hr.1.1 gC))
   have hmn:n<=m:=by rw[HNY.o,HMZ.o];exact kH ZT.o
   have HSG:Hid (CK b2 (wv (j_ z.natAbs)-wv (j_ y.natAbs))=y+z):=lH (by
    rw[dV,dV,aYK.o,Int.add_comm];exact XR (fun h=>JY.o h.symm) ZT.o)
   have hr1:decide (0<=r)=false:=by simpa using gC
   clear hr gC;(go_wp2_with fail);have H1W:Hid (jF V.drew V.drew.heap.size A n (j_ y.natAbs)):=lH H1.o.rd;have H2W:Hid (jF V.drew V.drew.heap.size B m (j_ z.natAbs)):=lH H2.o.rd;have gT:=eD;have tC:=HR;refine kQ 8 (fun hHeld=>?_);simp only[m_,List.take_zero];refine cR [0,1,2,3,4,5] ?_;refine bI 6 (fun K hK=>?_);go_simp;refine(aJ7 B m d A n c (j_ z.natAbs) (j_ y.natAbs) V.drew H2W.o H1W.o (gU _) (gU _) (by omega) (by omega) (by rw[dV,dV];exact ZT.o)).mono ?_;rintro e w5 ⟨eJ,A5,n5,c5,l5,rfl,xG,hd5,NQ,hn5,hc5⟩;obtain⟨d_,HR5,TF,HD5⟩:=h_ ((aI (Below.refl V.heap.size V)).trans eJ) xG NQ hd5;clear eJ xG NQ hd5;go_simp;refine iB hK d_.o (fun hHeld=>?_);clear hK K;refine bI 7 (fun K hK=>?_);go_simp;refine(jV b2 A5 n5 c5 l5 w5 HR5.o HD5.o hn5 hc5).mono ?_;rw[TF.o,HSG.o];rintro e w6 ⟨gA,b9,A9,n9,c9,rfl,h9⟩;have gQ:=cJ d_ gA;have H9:=lH h9;clear gA h9;go_simp;refine iB hK gQ.o (fun hHeld=>?_);clear hK K;refine eP ?_;have o3:=lH (gT.o.tm gQ.o);have lF:=lH (tC.o.bl gQ.o);clear p0 p1 q0 q1 pl ql;obtain⟨z0,z1,zf,zl⟩:=lF.o.e2;(go_wp2_with fail);generalize fG:(w6.setCell ⟨_,0,none⟩ _).setCell ⟨_,1,none⟩ _=W9;have iZ:=lH (oX (e:=.returned (.agg #[.bool b9,.slice A9 n9 c9])) o3.o mO lF.o (by simp) (by simp) H9.o rfl);rw[fG] at iZ;have fH:Hid (aD W9 _ 113 #[.bool b9,.slice A9 n9 c9]):=lH (by rw[<-fG];exact bV lF.o);clear fG z0 z1 zf zl;obtain⟨q0,q1⟩:=fH.o.a2;exact bodyPost_ret (v:=.agg #[.bool b9,.slice A9 n9 c9]) (by simp[results,Tryz.results116,go_sem,q0,q1]) rfl iZ.o
  ·have ZT:Hid (z.natAbs<=y.natAbs):=lH (Nat.le_of_not_lt fun h=>gC (hr.1.2 h))
   have hmn:m<=n:=by rw[HNY.o,HMZ.o];exact kH ZT.o
   have HSG:Hid (CK b1 (wv (j_ y.natAbs)-wv (j_ z.natAbs))=y+z):=lH (by
    rw[dV,dV,aYL.o];exact XR JY.o ZT.o)
   have hr1:0<=r:=by omega
   clear hr gC;(go_wp2_with fail);have H1W:Hid (jF V.drew V.drew.heap.size A n (j_ y.natAbs)):=lH H1.o.rd;have H2W:Hid (jF V.drew V.drew.heap.size B m (j_ z.natAbs)):=lH H2.o.rd;have gT:=eD;have tC:=HR;refine kQ 8 (fun hHeld=>?_);simp only[m_,List.take_zero];refine cR [0,1,2,3,4,5] ?_;refine bI 6 (fun K hK=>?_);go_simp;refine(aJ7 A n c B m d (j_ y.natAbs) (j_ z.natAbs) V.drew H1W.o H2W.o (gU _) (gU _) (by omega) (by omega) (by rw[dV,dV];exact ZT.o)).mono ?_;rintro e w5 ⟨eJ,A5,n5,c5,l5,rfl,xG,hd5,NQ,hn5,hc5⟩;obtain⟨d_,HR5,TF,HD5⟩:=h_ ((aI (Below.refl V.heap.size V)).trans eJ) xG NQ hd5;clear eJ xG NQ hd5;go_simp;refine iB hK d_.o (fun hHeld=>?_);clear hK K;refine bI 7 (fun K hK=>?_);go_simp;refine(jV b1 A5 n5 c5 l5 w5 HR5.o HD5.o hn5 hc5).mono ?_;rw[TF.o,HSG.o];rintro e w6 ⟨gA,b9,A9,n9,c9,rfl,h9⟩;have gQ:=cJ d_ gA;have H9:=lH h9;clear gA h9;go_simp;refine iB hK gQ.o (fun hHeld=>?_);clear hK K;refine eP ?_;have o3:=lH (gT.o.tm gQ.o);have lF:=lH (tC.o.bl gQ.o);clear p0 p1 q0 q1 pl ql;obtain⟨z0,z1,zf,zl⟩:=lF.o.e2;(go_wp2_with fail);generalize fG:(w6.setCell ⟨_,0,none⟩ _).setCell ⟨_,1,none⟩ _=W9;have iZ:=lH (oX (e:=.returned (.agg #[.bool b9,.slice A9 n9 c9])) o3.o mO lF.o (by simp) (by simp) H9.o rfl);rw[fG] at iZ;have fH:Hid (aD W9 _ 113 #[.bool b9,.slice A9 n9 c9]):=lH (by rw[<-fG];exact bV lF.o);clear fG z0 z1 zf zl;obtain⟨q0,q1⟩:=fH.o.a2;exact bodyPost_ret (v:=.agg #[.bool b9,.slice A9 n9 c9]) (by simp[results,Tryz.results116,go_sem,q0,q1]) rfl iZ.o
theorem aHP(y z:Int)(b1:Bool)(A:OA)(n c:Nat)(b2:Bool)(B:OA)(m d:Nat)(w:Wo)(h1:bW w w.heap.size y b1 A n c)(h2:bW w w.heap.size z b2 B m d)(hn:n<=35184372088832)(hm:m<=35184372088832):Calls Tryz.prog 170 #[.agg #[.bool b1,.slice A n c],.agg #[.bool b2,.slice B m d]] w (LgP (y-z) w):=by
 have HMZ:=lH h2.en;have eD:Hid (Below w.heap.size w (((w.alloc (aN b1 A n c)).alloc (aN b2 B m d)).alloc cP)):=lH (((bA).alloc (by simp) _).alloc (by simp;omega) _);have fB:Hid (aD (((w.alloc (aN b1 A n c)).alloc (aN b2 B m d)).alloc cP) w.heap.size 113 #[.bool b1,.slice A n c]):=lH (((aD.new w _ _).alloc _).alloc _);have gG:Hid (aD (((w.alloc (aN b1 A n c)).alloc (aN b2 B m d)).alloc cP) (w.heap.size+1) 113 #[.bool b2,.slice B m d]):=lH ((aD.new_ (by simp)).alloc _);have HR:Hid (aD (((w.alloc (aN b1 A n c)).alloc (aN b2 B m d)).alloc cP) (w.heap.size+1+1) 113 #[.bool false,.slice none 0 0]):=lH (aD.new_ (by simp));have H1:=lH (h1.up eD.o);have H2:=lH (h2.up eD.o);clear h1 h2;go_enter Tryz.func170,Tryz.ntmps170
 have mO:w.heap.size<=w.heap.size+1+1:=by omega
 go_wp2_with fail
 generalize (((w.alloc (aN b1 A n c)).alloc (aN b2 B m d)).alloc cP)=W at *;obtain⟨p0,p1,pl⟩:=fB.o.b2;obtain⟨q0,q1,ql⟩:=gG.o.b2;have HH1:Hid (bW W.drew W.drew.heap.size y b1 A n c):=lH (H1.o.up (aI bR));have HH2:Hid (bW W.drew W.drew.heap.size z b2 B m d):=lH (H2.o.up (aI bR));refine kQ 4 (fun hHeld=>?_);simp only[m_,List.take_zero];refine cR [0,1] ?_;refine bI 2 (fun K hK=>?_);go_simp;refine(FS z b2 B m d W.drew HH2.o).mono ?_;rintro e w5 ⟨eJ,b5,A5,n5,c5,rfl,h5⟩;have d_:=lH ((aI (Below.refl W.heap.size W)).trans eJ);have H5:=lH h5;have oS:Hid (n5=m):=lH (by rw[h5.en,Int.natAbs_neg,<-HMZ.o]);have aYt:=lH (HH1.o.up eJ);clear eJ h5;go_simp;refine iB hK d_.o (fun hHeld=>?_);clear hK K;refine bI 3 (fun K hK=>?_);go_simp;refine(N_ y (-z) b1 A n c b5 A5 n5 c5 w5 aYt.o H5.o hn (by have:=oS.o;omega)).mono ?_;rw[show y+-z=y-z from by omega];rintro e w6 ⟨gA,b9,A9,n9,c9,rfl,h9⟩;have gQ:=cJ d_ gA;have H9:=lH h9;clear gA h9;go_simp;refine iB hK gQ.o (fun hHeld=>?_);clear hK K;refine eP ?_;have o3:=lH (eD.o.tm gQ.o);have lF:=lH (HR.o.bl gQ.o);clear p0 p1 q0 q1 pl ql;obtain⟨z0,z1,zf,zl⟩:=lF.o.e2
 go_wp2_with fail
 generalize fG:(w6.setCell ⟨_,0,none⟩ _).setCell ⟨_,1,none⟩ _=W9;have iZ:=lH (oX (e:=.returned (.agg #[.bool b9,.slice A9 n9 c9])) o3.o mO lF.o (by simp) (by simp) H9.o rfl);rw[fG] at iZ;have fH:Hid (aD W9 _ 113 #[.bool b9,.slice A9 n9 c9]):=lH (by rw[<-fG];exact bV lF.o);clear fG z0 z1 zf zl;obtain⟨q0,q1⟩:=fH.o.a2;exact bodyPost_ret (v:=.agg #[.bool b9,.slice A9 n9 c9]) (by simp[results,Tryz.results170,go_sem,q0,q1]) rfl iZ.o
theorem aJn(y z:Int)(b1:Bool)(A:OA)(n c:Nat)(b2:Bool)(B:OA)(m d:Nat)(w:Wo)(h1:bW w w.heap.size y b1 A n c)(h2:bW w w.heap.size z b2 B m d)(hn:n<=35184372088832)(hm:m<=35184372088832):Calls Tryz.prog 154 #[.agg #[.bool b1,.slice A n c],.agg #[.bool b2,.slice B m d]] w fun e w'=>e=.returned (.int .i64 (y-z).sign)/\Below w.heap.size w w':=by
 have eD:Hid (Below w.heap.size w ((w.alloc (aN b1 A n c)).alloc (aN b2 B m d))):=lH ((bA).alloc (by simp) _);have fB:Hid (aD ((w.alloc (aN b1 A n c)).alloc (aN b2 B m d)) w.heap.size 113 #[.bool b1,.slice A n c]):=lH ((aD.new w _ _).alloc _);have gG:Hid (aD ((w.alloc (aN b1 A n c)).alloc (aN b2 B m d)) (w.heap.size+1) 113 #[.bool b2,.slice B m d]):=lH (aD.new_ (by simp));have H1:=lH (h1.up eD.o);have H2:=lH (h2.up eD.o);clear h1 h2;go_enter Tryz.func154,Tryz.ntmps154
 go_wp2_with fail
 generalize ((w.alloc (aN b1 A n c)).alloc (aN b2 B m d))=W at *;refine(aHP y z b1 A n c b2 B m d W H1.o H2.o hn hm).mono ?_;rintro e w5 ⟨eJ,b5,A5,n5,c5,rfl,h5⟩;have d_:=cJ eD eJ;have H5:=lH h5;clear eJ h5
 go_wp2_with fail
 refine(CZ (y-z) b5 A5 n5 c5 w5 H5.o).mono ?_;rintro e w6 ⟨rfl,gA⟩;have gQ:=cJ d_ gA;clear gA
 go_wp2_with fail
 go_ret;exact⟨rfl,gQ.o⟩
structure aWQ (x s:Nat):Prop where
 le:s<=31
 lo:2147483648<=x*2^s
 hi:x*2^s<4294967296
theorem SI:∀(x:Nat),0<x->x<18446744073709551616->1<=Lib.bitLen x/\2^(Lib.bitLen x-1)<=x/\x<2^Lib.bitLen x:=by
 intro x
 induction x using Nat.strongRecOn with
 | ind x ih=>
  intro h0 h1;have hh:=Lib.bitLen_half x (by omega) h1;by_cases hx:x=1
  ·subst hx
   have e:Lib.bitLen (1 / 2)=0:=by decide
   rw[e] at hh;rw[hh];decide
  ·obtain⟨g1,g2,g3⟩:=ih (x / 2) (by omega) (by omega) (by omega)
   rw[hh];generalize Lib.bitLen (x / 2)=L at *;obtain⟨k,rfl⟩:∃k,L=k+1:=⟨L-1,by omega⟩;rw[show 1+(k+1)-1=k+1 from by omega,show 1+(k+1)=k+2 from by omega];rw[Nat.add_sub_cancel] at g2;rw[Nat.pow_succ] at g3;refine⟨by omega,?_,?_⟩
   ·rw[Nat.pow_succ];omega
   ·rw[Nat.pow_succ,Nat.pow_succ];omega
theorem aLQ(x:Nat)(w:Wo)(h0:0<x)(h1:x<4294967296):Calls Tryz.prog 189 #[.int .u32 (x:Int)] w fun e w'=>(∃s:Nat,e=.returned (.int .i64 (s:Int))/\aWQ x s)/\w=w':=by
 refine(Tryz.bits_LeadingZeros32 (x:Int) w (by omega) (by omega)).mono ?_;rintro e w' ⟨rfl,rfl⟩;rw[jM];obtain⟨g1,g2,g3⟩:=SI x h0 (by omega);have KA:Lib.bitLen x<=32:=Lib.bitLen_le x 32 (by decide) h1;generalize Lib.bitLen x=L at *;refine⟨⟨32-L,aU (by omega),⟨by omega,?_,?_⟩⟩,rfl⟩
 ·have:2^(L-1)*2^(32-L)=2147483648:=by rw[<-Nat.pow_add,show L-1+(32-L)=31 from by omega]
  have:=Nat.mul_le_mul_right (2^(32-L)) g2;omega
 ·have:2^L*2^(32-L)=4294967296:=by rw[<-Nat.pow_add,show L+(32-L)=32 from by omega]
  have:=(Nat.mul_lt_mul_right (a:=2^(32-L)) (Nat.pow_pos (by decide))).2 g3;omega
def aTi(x y:Nat)(w:Wo)(e:Ending)(w':Wo):Prop:=Below w.heap.size w w'/\∃A n c l B m d l2,e=.returned (.tuple #[.slice A n c,.slice B m d])/\(jF w' w'.heap.size A n l/\Wd l/\wv l=x / y/\n<=c/\c<=9223372036854775807)/\(jF w' w'.heap.size B m l2/\Wd l2/\wv l2=x % y/\m<=d/\d<=9223372036854775807)/\n<=35184372088833/\m<=35184372088832
theorem RW(A:OA)(n c:Nat)(B:OA)(m d:Nat)(x y:Nat)(w:Wo)(hx:jF w w.heap.size A n (j_ x))(hy:jF w w.heap.size B m (j_ y))(wK:0<y)(hnc:n<=c)(KD:c<=9223372036854775807)(hn:n<=35184372088832)(hm:m<=35184372088832):Calls Tryz.prog 168 #[.slice A n c,.slice B m d] w (aTi x y w):=by
 have HX:=lH hx;have HY:=lH hy;have HXL:Hid (dA x=n):=lH hx.len;have HYL:Hid (dA y=m):=lH hy.len;have VJ:0<m:=by rw[<-HYL.o,jX (by omega)];omega
 clear hx hy;go_enter Tryz.func168,Tryz.ntmps168
 go_wp2_with fail
 refine(SA A n c B m d x y w HX.o HY.o (by omega) (by omega)).mono ?_;rintro e w1 ⟨⟨r,rfl,hr⟩,nq,rfl⟩;have JS:Below w.heap.size w (w.drewN nq):=bF bR nq;obtain⟨cI,fB,HY1⟩:=dZ JS (HX.o.up JS) (HY.o.up JS);clear JS HX HY;generalize w.drewN nq=v at *;by_cases gC:r<0
 ·have uK:Hid (x<y):=lH (hr.1.1 gC)
  clear hr;(go_wp2_with fail);go_ret2;exact⟨cI.o,none,0,0,[],A,n,c,j_ x,rfl,⟨AA _ _ _,aCR,by rw[Nat.div_eq_of_lt uK.o];rfl,lR,by decide⟩,⟨fB.o,gU _,by rw[Nat.mod_eq_of_lt uK.o,dV],hnc,KD⟩,by omega,by omega⟩
 ·have ZT:Hid (y<=x):=lH (Nat.le_of_not_lt fun h=>gC (hr.1.2 h))
  have hr1:0<=r:=by omega
  clear hr gC;obtain⟨bb,bo,LT,yZ⟩:=HY1.o.form VJ;subst LT;by_cases FV:m=1
  ·subst FV
   have aLU:y<4294967296:=by
    have:=nP y;rw[HYL.o] at this;exact this
   have HD0:Hid ((j_ y).getD 0 0=y):=lH (by
    rw[nS (by omega),Nat.mod_eq_of_lt aLU];rfl)
   have hcb:=HY1.o.at_ (i:=0) (by omega);rw[HD0.o,Nat.add_zero] at hcb;(go_wp2_with fail);refine(aJ9 A n c y (j_ x) v fB.o (gU _) hn wK aLU).mono ?_;rw[dV];rintro e w2 ⟨bH,g2,n2,l2,rfl,EF,hd2,kU,Q4,-⟩;have dN:=cJ cI bH;obtain⟨BV,yA,HD2⟩:=dZ EF kU hd2;have Q5:x % y<4294967296:=Nat.lt_trans (Nat.mod_lt _ wK) aLU;obtain⟨t,ht⟩:∃t,x % y=t:=⟨_,rfl⟩;have HT:=lH ht;rw[ht] at Q5 ⊢;have yB:=lH ((Below.refl w2.heap.size w2).alloc lR (.cells #[.int .u32 (t:Int)] 216));have jA:Hid (aD (w2.alloc (.cells #[.int .u32 (t:Int)] 216)) w2.heap.size 216 (bN [t]).toArray):=lH (aD.new w2 _ _);clear bH EF kU hd2 ht hcb hr1;(go_wp2_with fail);go_ret2;exact⟨dN.o.tm yB.o,_,n2,n2,l2,_,1,1,[t],rfl,⟨BV.o.up yB.o,HD2.o,yA.o,lR,by omega⟩,⟨rE jA.o,fun z hz=>by rw[List.mem_singleton.1 hz];exact Q5,by rw[HT.o];simp[wv],lR,by decide⟩,by omega,by omega⟩
  ·have wM:2<=m:=by omega
   have hmb:((m:Int) == 1)=false:=by simp;omega
   have HTP:Hid (0<(j_ y).getD (m-1) 0/\(j_ y).getD (m-1) 0<4294967296):=lH ⟨by
    have h:=(aIi y).2;have hl:(j_ y).length=m:=HYL.o;rw[List.getLast?_eq_getElem?,hl,gS (by omega)] at h;rw[dH,gS (by omega)];simp only[Option.getD_some];refine Nat.pos_of_ne_zero fun e=>h (by rw[e])
    ,(gU y).getD _⟩
   have hcb:=HY1.o.at_ (i:=m-1) (by omega);obtain⟨bt,hbt⟩:∃t,(j_ y).getD (m-1) 0=t:=⟨_,rfl⟩;have HBT:=lH hbt;rw[hbt] at hcb HTP;obtain⟨IF,qZ⟩:=HTP.o;have g1:(1:Int)<=(m:Int):=by omega
   have g4:((m:Int)-1).toNat=m-1:=by omega
   have g5:(m:Int)-1<(m:Int):=by omega
   have hmI:(m:Int)<=35184372088832:=by omega
   clear hbt;(go_wp2_with fail);clear hcb;refine(aLQ bt v IF qZ).mono ?_;rintro e w2 ⟨⟨s,rfl,hs⟩,rfl⟩;have HS:=lH hs;have aIJ:=hs.le;clear hs IF qZ g1 g4 g5;(go_wp2_with fail);have aWX:Hid (jF v.drew v.drew.heap.size A n (j_ x)):=lH fB.o;have aWU:Hid (jF v.drew v.drew.heap.size (some ⟨bb,bo,none⟩) m (j_ y)):=lH HY1.o;have aVm:(m:Int)<=(m:Int)+1:=by omega
   refine kQ 10 (fun hHeld=>?_);simp only[m_,List.take_zero];refine cR [0,1,3,4,6,7] ?_;refine bI 2 (fun K hK=>?_);go_simp;refine(shW A n c s (j_ x) v.drew aWX.o (gU _) hn aIJ).mono ?_;rw[dV];rintro e w3 ⟨dK,gu,us,rfl,hgu,hu,hud,YE,hul⟩;have fV:=lH ((aI (Below.refl v.heap.size v)).trans dK);have HU3:=lH hu;have HUP:Hid (Wd us/\wv us=x*2^s/\us.length=n+1):=lH ⟨hud,YE,hul⟩;have aVJ:v.heap.size<=gu:=hgu;have HY3:=lH (aWU.o.up dK);clear dK hu hud YE hul hgu;go_simp;refine iB hK fV.o (fun hHeld=>?_);clear hK K;refine bI 5 (fun K hK=>?_);go_simp;refine(shW (some ⟨bb,bo,none⟩) m d s (j_ y) w3 HY3.o (gU _) hm aIJ).mono ?_;rw[dV];rintro e w4 ⟨gE,gv,vs,rfl,hgv,tL,hvd,hvv,hvl⟩;have bP:=cJ fV gE;have ZP:=lH tL;have HVP:Hid (Wd vs/\wv vs=y*2^s/\vs.length=m+1):=lH ⟨hvd,hvv,hvl⟩;have a3j:gu<gv:=kA HU3.o.lt hgv;have HU4:=lH (HU3.o.bl gE);clear gE tL hvd hvv hvl hgv;go_simp;refine iB hK bP.o (fun hHeld=>?_);clear hK K;refine cR [8,9] ?_;refine eP ?_;go_simp;have hmn:m<=n:=by rw[<-HXL.o,<-HYL.o];exact kH ZT.o
   have HNV:Hid (wv (vs.take m)=y*2^s/\2147483648<=(vs.take m).getD (m-1) 0):=lH (by
    have hlz:=HS.o;have h:=aD1 (n:=m) (by omega) (gU y) HYL.o HVP.o.1 HVP.o.2.2 (by rw[dV];exact HVP.o.2.1) (by rw[HBT.o];exact hlz.lo) (by rw[HBT.o];exact hlz.hi) hlz.le;rwa[dV] at h)
   obtain⟨k,hk⟩:∃k,n=k+m:=⟨n-m,by omega⟩;subst hk;have s_:∀w:World,(Instr.makeSlice 111 (.int .i64 ((k:Int)+1)) (.int .i64 ((k:Int)+1))).run Tryz.prog w=.ok (.slice (some ⟨w.heap.size,0,none⟩) (k+1) (k+1)) (w.alloc (.cells (bN (List.replicate (k+1) 0)).toArray 216)):=fun w=>qC (k+1) (by omega) w;have HKQ:=lH ((Below.refl w4.heap.size w4).alloc lR (.cells (bN (List.replicate (k+1) 0)).toArray 216));have HQ0:=lH (aD.new w4 216 (bN (List.replicate (k+1) 0)).toArray)
   (go_wp2_with fail);clear s_;obtain⟨vm,hvm⟩:∃l,vs.take m=l:=⟨_,rfl⟩;have HVM:=lH hvm;have JW:Hid (vm.length=m):=lH (by rw[<-hvm,jN,HVP.o.2.2];omega);have HVW:Hid (Wd vm):=lH (by rw[<-hvm];exact HVP.o.1.take m);have HVT:Hid (∀i,i<m->vs.getD i 0=vm.getD i 0):=lH (fun i hi=>by
    rw[<-hvm,dH,dH,List.getElem?_take_of_lt hi])
   rw[hvm] at HNV;clear hvm;have KK:Hid (us.length=k+m+1):=lH HUP.o.2.2;have OI:Hid (I6 (x*2^s) us vm (List.replicate (k+1) 0) m (k+1)):=lH (PI (a:=j_ x) (dV x) (gU x) HXL.o (by omega) HUP.o.1 (pW _) HUP.o.2.1 aIJ JW.o HNV.o.2 (rZ _ _));have pL:Hid (2147483648<=vm.getD (m-1) 0):=lH HNV.o.2;obtain⟨d_,HU5,TF⟩:=dZ (bP.o.tm HKQ.o) (HU4.o.bl HKQ.o) (ZP.o.bl HKQ.o);have a3i:gv<w4.heap.size:=ZP.o.lt;have wO:v.heap.size<=gu:=aVJ;have aVQ:v.heap.size<=w4.heap.size:=by omega
   have hnv:gv≠gu:=by omega
   have hnq:w4.heap.size≠gu:=by omega
   have aU9:gv≠w4.heap.size:=by omega
   have aU_:gu≠w4.heap.size:=by omega
   generalize w4.alloc (.cells (bN (List.replicate (k+1) 0)).toArray 216)=W at *;generalize w4.heap.size=gq at *;clear fV HU3 HY3 bP HU4 ZP aWX aWU aVm HKQ;clear fB HY1
   go_loopw [12] (fun v12 wr=>∃(j:Nat)(us qs:List Nat),j<=k+1/\v12=.int .i64 ((j:Int)-1)/\Below v.heap.size v wr/\aD wr gv 216 (bN vs).toArray/\aD wr gu 216 (bN us).toArray/\us.length=k+m+1/\aD wr gq 216 (bN qs).toArray/\qs.length=k+1/\I6 (x*2^s) us vm qs m j) (fun v12 _=>(intOf v12+1).toNat)
   case atStart=>exact⟨k+1,us,_,lR,aQ (by omega),d_.o,TF.o,HU5.o,KK.o,HQ0.o,by simp,OI.o⟩
   case round=>as_aux_lemma=>
    clear d_ TF HU5 KK HQ0 OI HUP;obtain⟨j,us,qs,hj,rfl,hb,hv,hu,hul,hq,hql,JO⟩:=hrel;obtain⟨HB,HV,HU,KK,HQ⟩:=iS hb hv hu hul hq;have lP:=lH hql;have gZ:=lH JO;clear hb hv hu hul hq hql JO;by_cases h0:j=0
    ·subst h0
     have e:(((0:Nat):Int)-1)=-1:=rfl;rw[e];clear e;have HDD:=lH (aFH gZ.o HNV.o.1 wK);have hyB:y<BB m:=by have:=nP y;rwa[HYL.o] at this
     have HUZ:Hid (wv us / 2^s<BB m):=lH (Nat.lt_trans HDD.o.2.2 hyB);have HUW:Hid (Wd us):=lH gZ.o.ud;have HQW:Hid (Wd qs):=lH gZ.o.qd;have Q6:∀w:World,(Instr.makeSlice 111 (.int .i64 (m:Int)) (.int .i64 (m:Int))).run Tryz.prog w=.ok (.slice (some ⟨w.heap.size,0,none⟩) m m) (w.alloc (.cells (bN (List.replicate m 0)).toArray 216)):=fun w=>qC m (by omega) w;have HKR:=lH ((Below.refl wr.heap.size wr).alloc lR (.cells (bN (List.replicate m 0)).toArray 216));obtain⟨F4,gQ,HU6,HQ6⟩:=h_ (aD.new wr 216 (bN (List.replicate m 0)).toArray) (HB.o.tm HKR.o) (HU.o.bl HKR.o) (HQ.o.bl HKR.o);have a3m:wr.heap.size≠gu:=by have:=HU.o.lt;omega
     have aVO:gu≠wr.heap.size:=by have:=HU.o.lt;omega
     have aVN:gq≠wr.heap.size:=by have:=HQ.o.lt;omega
     have aVM:v.heap.size<=wr.heap.size:=HB.o.size;clear gZ;(go_wp2_with fail);clear Q6;generalize wr.alloc (.cells (bN (List.replicate m 0)).toArray 216)=WR at *;generalize wr.heap.size=gr at *;clear HB HV HU HQ HKR
     go_loopw [250] (fun v250 wr=>∃(z:Nat)(rs:List Nat),z<=m/\v250=.int .i64 z/\Below v.heap.size v wr/\aD wr gu 216 (bN us).toArray/\aD wr gq 216 (bN qs).toArray/\aD wr gr 216 (bN rs).toArray/\rs.length=m/\Wd rs/\Zf rs z/\wv rs=wv us / 2^s % BB z) (fun v250 _=>m-(intOf v250).toNat)
     case atStart=>exact⟨0,_,Nat.zero_le _,rfl,gQ.o,HU6.o,HQ6.o,F4.o,by simp,pW _,rZ _ _,by rw[pU,w_,Nat.mod_one]⟩
     case round=>as_aux_lemma=>
      clear gQ HU6 HQ6 F4;obtain⟨z,rs,hz,rfl,hb,hu,hq,hr,sM,YH,hrz,hrv⟩:=hrel;obtain⟨HB,HU,HQ,HR,xO⟩:=iS hb hu hq hr sM;obtain⟨tC,HRZ,HRV⟩:=dZ YH hrz hrv;have a3l:=hr.lt;have hfr:=hr.frozen;have aBd:=hu.lt;clear hb hu hq hr sM YH hrz hrv;by_cases hzm:z<m
      ·have IJ:=bY HU.o (i:=z) (by rw[KK.o];omega)
       have hc1:=bY HU.o (i:=z+1) (by rw[KK.o];omega);have hcr:=bY HR.o (i:=z) (by rw[xO.o];omega);have IL:=HUW.o.getD z;have bO:=HUW.o.getD (z+1);have ON:=lH (WI HUW.o aIJ hzm (by rw[xO.o];omega) (by rw[KK.o];omega) HRZ.o HRV.o);obtain⟨x0,NO⟩:∃a,us.getD z 0=a:=⟨_,rfl⟩;obtain⟨x1,DB⟩:∃a,us.getD (z+1) 0=a:=⟨_,rfl⟩;obtain⟨x2,xV⟩:∃a,rs.getD z 0=a:=⟨_,rfl⟩;rw[NO] at IJ IL;rw[DB] at hc1 bO;rw[NO,DB] at ON;rw[xV] at hcr;have hor:bits BinOp.or IntKind.u64 ((x1:Int)*4294967296) (x0:Int)=((x1*4294967296+x0:Nat):Int):=AH x1 x0 32 (by omega) bO IL;have aL3:=ON.o.1;have dN:=lH ON.o.2;clear ON NO DB xV;generalize x1*4294967296+x0=sm at *;have eY:=lN z;have iD:Hid (m-(z+1)<m-z):=lH (by omega);have tY:Hid ((sm:Int) / 2^s % 4294967296=((sm / 2^s % 4294967296:Nat):Int)):=lH (by
        rw[Int.natCast_emod,Int.natCast_ediv,Int.natCast_pow];rfl)
       have aXC:Hid ((rs.set z (sm / 2^s % 4294967296)).length=m):=lH (by rw[kV];exact xO.o);have aXv:Hid (Wd (rs.set z (sm / 2^s % 4294967296))):=lH (tC.o.set _ (Nat.mod_lt _ (by decide)));have aXq:Hid (Zf (rs.set z (sm / 2^s % 4294967296)) (z+1)):=lH HRZ.o.put;have s1:(z:Int)<(m:Int):=by omega
       have s2:IntKind.i64.wrap ((z:Int)+1)=(z:Int)+1:=Go.IntWalk.i64_in _ (by omega);have s3:((z:Int)+1).toNat=z+1:=by omega
       have s4:(z:Int)+1<(k:Int)+(m:Int)+1:=by omega
       have s5:(0:Int)<=(z:Int)+1:=by omega
       have s6:(z:Int)<(k:Int)+(m:Int)+1:=by omega
       (go_wp2_with fail);refine kQ 19 (fun hHeld=>?_);simp only[m_,List.take_zero];refine cR [0,1,2,3,4,5,6,7,8,9,10,11,12,13,14,15,16,17,18] ?_;refine eP ?_;(go_wp2_with fail);clear s1 s2 s3 s4 s5 s6;go_roundw
       case rel=>exact⟨z+1,rs.set z (sm / 2^s % 4294967296),hzm,aQ eY.o,aI (HB.o.setCell aVM _),(HU.o.far aVO _).drew,(HQ.o.far aVN _).drew,(eQ HR.o tY.o).drew,aXC.o,aXv.o,aXq.o,dN.o⟩
       case measure=>exact iD.o
      ·have hze:z=m:=by omega
       subst hze;have pL:Hid (wv rs=x % y):=lH (by rw[HRV.o,Nat.mod_eq_of_lt HUZ.o];exact HDD.o.2.1);(go_wp2_with fail);go_ret2;exact⟨cI.o.tm HB.o,_,k+1,k+1,qs,_,z,z,rs,rfl,⟨by have:=rE HQ.o;rwa[lP.o] at this,HQW.o,HDD.o.1,lR,by omega⟩,⟨by have:=rE HR.o;rwa[xO.o] at this,tC.o,pL.o,lR,by omega⟩,by omega,by omega⟩
    ·obtain⟨i,rfl⟩:∃i,j=i+1:=⟨j-1,by omega⟩
     have e:(((i+1:Nat):Int)-1)=(i:Int):=by omega
     rw[e];clear e h0;have W_:Hid (gR us vm m i):=lH (aDa gZ.o wM JW.o HVW.o pL.o (by rw[KK.o];omega));obtain⟨u1,hu1⟩:∃t,us.getD (i+m) 0=t:=⟨_,rfl⟩;obtain⟨u0,hu0⟩:∃t,us.getD (i+m-1) 0=t:=⟨_,rfl⟩;obtain⟨u2,hu2⟩:∃t,us.getD (i+m-2) 0=t:=⟨_,rfl⟩;obtain⟨v1,nA⟩:∃t,vm.getD (m-1) 0=t:=⟨_,rfl⟩;obtain⟨v2,kU⟩:∃t,vm.getD (m-2) 0=t:=⟨_,rfl⟩;have aQY:=bY HU.o (i:=i+m) (by rw[KK.o];omega);have aQZ:=bY HU.o (i:=i+m-1) (by rw[KK.o];omega);have aE4:=bY HV.o (i:=m-1) (by rw[HVP.o.2.2];omega);have aML:=W_.o.ud.getD (i+m);have aMM:=W_.o.ud.getD (i+m-1);have aQ3:=W_.o.ud.getD (i+m-2);have aWf:=HVW.o.getD (m-1);have aWe:=HVW.o.getD (m-2);have aVo:=pL.o;rw[HVT.o _ (by omega),nA] at aE4;rw[hu1] at aQY aML;rw[hu0] at aQZ aMM;rw[hu2] at aQ3;rw[nA] at aWf aVo;rw[kU] at aWe;have HTP:Hid (gR.tp us m i=u1*4294967296+u0):=lH (by unfold gR.tp;rw[hu1,hu0]);obtain⟨HU2,aBW,aNr⟩:=dZ hu2 nA kU;clear hu1 hu0 hu2 nA kU;have s1:IntKind.i64.wrap ((i:Int)+(m:Int))=(i:Int)+(m:Int):=Go.IntWalk.i64_in _ (by omega);have s2:IntKind.i64.wrap ((i:Int)+(m:Int)-1)=(i:Int)+(m:Int)-1:=Go.IntWalk.i64_in _ (by omega);have s3:((i:Int)+(m:Int)).toNat=i+m:=by omega
     have s4:((i:Int)+(m:Int)-1).toNat=i+m-1:=by omega
     have s5:(i:Int)+(m:Int)<(k:Int)+(m:Int)+1:=by omega
     have s6:(i:Int)+(m:Int)-1<(k:Int)+(m:Int)+1:=by omega
     have s7:(0:Int)<=(i:Int)+(m:Int):=by omega
     have s8:(0:Int)<=(i:Int)+(m:Int)-1:=by omega
     have s9:(1:Int)<=(i:Int)+(m:Int):=by omega
     have hor:bits BinOp.or IntKind.u64 ((u1:Int)*4294967296) (u0:Int)=((u1*4294967296+u0:Nat):Int):=AH u1 u0 32 (by omega) aML aMM;have aBd:gu<wr.heap.size:=HU.o.lt;have aBc:gv<wr.heap.size:=HV.o.lt;(go_wp2_with fail)
     go_cut [13] (fun v13 wc=>v13=.int .u64 ((u1*4294967296+u0:Nat):Int)/\∃nq,wc=wr.drewN nq)
     case first=>
      go_quiet (fail)
      (go_wp2_with fail);go_meet
      case rel=>exact⟨rfl,_,rfl⟩
     obtain⟨rfl,nq1,rfl⟩:=hcut;have aQX:(wr.drewN nq1).cell? ⟨gv,m-1,none⟩=some (.int .u32 (v1:Int)):=aE4;have aQL:gv<(wr.drewN nq1).heap.size:=aBc;clear aE4 aBc aBd;obtain⟨HBx,HVx,HUx,HQx⟩:=h_ (bF HB.o nq1) (HV.o.drewN nq1) (HU.o.drewN nq1) (HQ.o.drewN nq1);clear HB HV HU HQ;have HB:=HBx;have HV:=HVx;have HU:=HUx;have HQ:=HQx;clear HBx HVx HUx HQx;generalize wr.drewN nq1=wa at *;have uK:=lH (gR.top_lt W_.o);rw[HTP.o,aBW.o] at uK;have S_:u1*4294967296+u0<18446744073709551616:=by omega
     generalize u1*4294967296+u0=tp at *;clear aQY aQZ s1 s2 s3 s4 s5 s6 s7 s8 s9 hor aML aMM;have aN4:=lH (RJ W_.o);rw[HTP.o,aBW.o] at aN4;have htd:=O5 tp v1;have htm:=O3 tp v1;have hqb:tp / v1<=tp:=Nat.div_le_self _ _;have EE:tp % v1<v1:=Nat.mod_lt _ (by omega);generalize hg0:tp / v1=g0 at *;generalize gC:tp % v1=r0 at *;have hwq:IntKind.u64.wrap (g0:Int)=(g0:Int):=Go.IntWalk.u64_in _ (by omega);have aLX:((v1:Int) == 0)=false:=by simp;omega
     have s1:IntKind.i64.wrap ((m:Int)-1)=(m:Int)-1:=Go.IntWalk.i64_in _ (by omega);have s2:((m:Int)-1).toNat=m-1:=by omega
     have s3:(m:Int)-1<(m:Int):=by omega
     have s4:(1:Int)<=(m:Int):=by omega
     clear hg0 gC;(go_wp2_with fail)
     go_cut [14,15] (fun v14 v15 wc=>v14=.int .u64 (g0:Int)/\v15=.int .u64 (r0:Int)/\∃nq,wc=wa.drewN nq)
     case first=>
      go_quiet (fail)
      (go_wp2_with fail);go_meet
      case rel=>exact⟨rfl,rfl,_,rfl⟩
     obtain⟨rfl,rfl,nq2,rfl⟩:=hcut;clear aQX aQL;obtain⟨HBx,HVx,HUx,HQx⟩:=h_ (bF HB.o nq2) (HV.o.drewN nq2) (HU.o.drewN nq2) (HQ.o.drewN nq2);clear HB HV HU HQ;have HB:=HBx;have HV:=HVx;have HU:=HUx;have HQ:=HQx;clear HBx HVx HUx HQx;generalize wa.drewN nq2=wb at *;clear htd htm hwq aLX s1 s2 s3 s4 hqb;have aE0:g0<18446744073709551616:=by
      have h:=aN4.o.eq;rw[aBW.o,HTP.o] at h;have:g0*1<=g0*v1:=Nat.mul_le_mul_left _ (by omega);omega
     have aED:r0<4294967296:=by omega
     clear EE S_
     go_upto_block 2 with fail
     go_cut [14] (fun v14 wc=>∃g:Nat,v14=.int .u64 (g:Int)/\wZ us vm i g/\∃nq,wc=wb.drewN nq)
     case first=>
      go_wp2_with fail
      go_loopw [14,15] (fun v14 v15 wr=>∃g rest:Nat,v14=.int .u64 (g:Int)/\v15=.int .u64 (rest:Int)/\g<18446744073709551616/\rest<4294967296/\S2 us vm m i g rest/\∃nq,wr=wb.drewN nq) (fun _ v15 _=>4294967296-(intOf v15).toNat)
      case atStart=>exact⟨g0,r0,rfl,rfl,aE0,aED,aN4.o,0,rfl⟩
      case round=>as_aux_lemma=>
       clear aN4 aE0 aED;obtain⟨g,rest,rfl,rfl,a3p,aL9,hG,nq3,rfl⟩:=hrel;have HG:=lH hG;clear hG;have aV8:=bY HU.o (i:=i+m-2) (by rw[KK.o];omega);have aE4:=bY HV.o (i:=m-1) (by rw[HVP.o.2.2];omega);have aMG:=bY HV.o (i:=m-2) (by rw[HVP.o.2.2];omega);rw[HVT.o _ (by omega),aBW.o] at aE4;rw[HVT.o _ (by omega),aNr.o] at aMG;rw[HU2.o] at aV8;have aBd:=HU.o.lt;have aBc:=HV.o.lt;have s1:IntKind.i64.wrap ((m:Int)-1)=(m:Int)-1:=Go.IntWalk.i64_in _ (by omega);have s2:((m:Int)-1).toNat=m-1:=by omega
       have s3:(m:Int)-1<(m:Int):=by omega
       have s4:(1:Int)<=(m:Int):=by omega
       have s5:IntKind.i64.wrap ((m:Int)-2)=(m:Int)-2:=Go.IntWalk.i64_in _ (by omega);have s6:((m:Int)-2).toNat=m-2:=by omega
       have s7:(m:Int)-2<(m:Int):=by omega
       have s8:(2:Int)<=(m:Int):=by omega
       have s9:IntKind.i64.wrap ((i:Int)+(m:Int))=(i:Int)+(m:Int):=Go.IntWalk.i64_in _ (by omega);have s10:IntKind.i64.wrap ((i:Int)+(m:Int)-2)=(i:Int)+(m:Int)-2:=Go.IntWalk.i64_in _ (by omega);have s11:((i:Int)+(m:Int)-2).toNat=i+m-2:=by omega
       have s12:(i:Int)+(m:Int)-2<(k:Int)+(m:Int)+1:=by omega
       have s13:(0:Int)<=(i:Int)+(m:Int)-2:=by omega
       have s14:(2:Int)<=(i:Int)+(m:Int):=by omega
       by_cases aMN:4294967296<=g
       ·have ta:decide ((4294967296:Int)<=(g:Int))=true:=by simp;omega
        have ta2:(4294967296:Int)<=(g:Int):=by omega
        have HBG:=lH aMN;clear aMN;have hdn:=IN W_.o HG.o (.inl HBG.o);obtain⟨RC,VL⟩:=hdn;have eY:Hid ((g:Int)-1=((g-1:Nat):Int)):=lH (by omega);have iD:Hid ((rest:Int)+(v1:Int)=((rest+v1:Nat):Int)):=lH (by omega);have tY:Hid (g-1<18446744073709551616):=lH (by omega);rw[aBW.o] at VL;have jA:=lH VL;have HGE:=lH (fun h=>DG W_.o jA.o (.inr h));have hw:IntKind.u64.wrap ((g:Int)-1)=(g:Int)-1:=Go.IntWalk.u64_in _ (by omega);have hgI:(1:Int)<=(g:Int):=by omega
        clear VL;by_cases hbr:4294967296<=rest+v1
        ·have b1:decide ((4294967296:Int)<=(rest:Int)+(v1:Int))=true:=by simp;omega
         have b2:(4294967296:Int)<=(rest:Int)+(v1:Int):=by omega
         have qW:=lH hbr;clear hbr;(go_wp2_with fail)
         go_quiet (fail)
         (go_wp2_with fail);clear s1 s2 s3 s4 s5 s6 s7 s8 s9 s10 s11 s12 s13 s14;go_meet
         case rel=>exact⟨g-1,aQ eY.o,HGE.o qW.o,_,by first | rfl | exact World.drewN_drewN _ _ _⟩
        ·have b1:decide ((4294967296:Int)<=(rest:Int)+(v1:Int))=false:=by simp;omega
         have b2:¬(4294967296:Int)<=(rest:Int)+(v1:Int):=by omega
         have m8:Hid (rest+v1<4294967296):=lH (by omega);have oS:Hid (4294967296-(rest+v1)<4294967296-rest):=lH (by omega);(go_wp2_with fail)
         go_quiet (fail)
         (go_wp2_with fail);clear s1 s2 s3 s4 s5 s6 s7 s8 s9 s10 s11 s12 s13 s14;go_roundw
         case rel=>exact⟨g-1,rest+v1,aQ eY.o,aQ iD.o,tY.o,m8.o,jA.o,_,by first | rfl | exact World.drewN_drewN _ _ _⟩
         case measure=>simp[intOf];omega
       ·have ta:decide ((4294967296:Int)<=(g:Int))=false:=by simp;omega
        have ta2:¬(4294967296:Int)<=(g:Int):=by omega
        have RB:g<4294967296:=by omega
        have hpr:g*v2<=4294967295*4294967295:=Nat.mul_le_mul (by omega) (by omega);have aEP:IntKind.u64.wrap ((g:Int)*(v2:Int))=((g*v2:Nat):Int):=by rw[<-Int.natCast_mul];exact Go.IntWalk.u64_in _ (by omega)
        have hor:bits BinOp.or IntKind.u64 ((rest:Int)*4294967296) (u2:Int)=((rest*4294967296+u2:Nat):Int):=AH rest u2 32 (by omega) aL9 aQ3;obtain⟨pr,aMb⟩:∃p,g*v2=p:=⟨_,rfl⟩;obtain⟨sm,hsm⟩:∃p,rest*4294967296+u2=p:=⟨_,rfl⟩;have SR:=lH aMb;have HSM:=lH hsm;rw[aMb] at aEP;rw[hsm] at hor;clear hpr aMb hsm aMN;by_cases aE8:sm<pr
        ·have tb:decide (sm<pr)=true:=by simpa using aE8
         have HCM:Hid (rest*4294967296+us.getD (i+m-2) 0<g*vm.getD (m-2) 0):=lH (by rw[HU2.o,aNr.o,SR.o,HSM.o];exact aE8);clear aE8;have hdn:=IN W_.o HG.o (.inr HCM.o);obtain⟨RC,VL⟩:=hdn;have eY:Hid ((g:Int)-1=((g-1:Nat):Int)):=lH (by omega);have iD:Hid ((rest:Int)+(v1:Int)=((rest+v1:Nat):Int)):=lH (by omega);have tY:Hid (g-1<18446744073709551616):=lH (by omega);rw[aBW.o] at VL;have jA:=lH VL;have HGE:=lH (fun h=>DG W_.o jA.o (.inr h));have hw:IntKind.u64.wrap ((g:Int)-1)=(g:Int)-1:=Go.IntWalk.u64_in _ (by omega);have hgI:(1:Int)<=(g:Int):=by omega
         clear VL;by_cases hbr:4294967296<=rest+v1
         ·have b1:decide ((4294967296:Int)<=(rest:Int)+(v1:Int))=true:=by simp;omega
          have b2:(4294967296:Int)<=(rest:Int)+(v1:Int):=by omega
          have qW:=lH hbr;clear hbr;(go_wp2_with fail)
          go_quiet (fail)
          (go_wp2_with fail);clear s1 s2 s3 s4 s5 s6 s7 s8 s9 s10 s11 s12 s13 s14;go_meet
          case rel=>exact⟨g-1,aQ eY.o,HGE.o qW.o,_,by first | rfl | exact World.drewN_drewN _ _ _⟩
         ·have b1:decide ((4294967296:Int)<=(rest:Int)+(v1:Int))=false:=by simp;omega
          have b2:¬(4294967296:Int)<=(rest:Int)+(v1:Int):=by omega
          have m8:Hid (rest+v1<4294967296):=lH (by omega);have oS:Hid (4294967296-(rest+v1)<4294967296-rest):=lH (by omega);(go_wp2_with fail)
          go_quiet (fail)
          (go_wp2_with fail);clear s1 s2 s3 s4 s5 s6 s7 s8 s9 s10 s11 s12 s13 s14;go_roundw
          case rel=>exact⟨g-1,rest+v1,aQ eY.o,aQ iD.o,tY.o,m8.o,jA.o,_,by first | rfl | exact World.drewN_drewN _ _ _⟩
          case measure=>simp[intOf];omega
        ·have tb:decide (sm<pr)=false:=by simpa using aE8
         have HGE:=lH (DG W_.o HG.o (.inl ⟨RB,by rw[HU2.o,aNr.o,SR.o,HSM.o];omega⟩));clear aE8;(go_wp2_with fail)
         go_quiet (fail)
         (go_wp2_with fail);clear s1 s2 s3 s4 s5 s6 s7 s8 s9 s10 s11 s12 s13 s14;go_meet
         case rel=>exact⟨g,rfl,HGE.o,_,by first | rfl | exact World.drewN_drewN _ _ _⟩
     obtain⟨g,rfl,hGO,nq3,rfl⟩:=hcut;have lQ:=lH hGO;have RB:g<4294967296:=hGO.lt;clear hGO aN4 aE0 aED;obtain⟨HBx,HVx,HUx,HQx⟩:=h_ (bF HB.o nq3) (HV.o.drewN nq3) (HU.o.drewN nq3) (HQ.o.drewN nq3);clear HB HV HU HQ;have HB:=HBx;have HV:=HVx;have HU:=HUx;have HQ:=HQx;clear HBx HVx HUx HQx;generalize wb.drewN nq3=wd at *;have W5:=lH (UW (g:=g) W_.o);(go_wp2_with fail)
     go_loopw [16,17,143] (fun v16 v17 v143 wr=>∃(t:Nat)(bo:Int)(ca:Nat)(ux:List Nat),t<=m/\v143=.int .i64 t/\v16=.int .i64 bo/\v17=.int .u64 (ca:Int)/\Below v.heap.size v wr/\aD wr gv 216 (bN vs).toArray/\aD wr gu 216 (bN ux).toArray/\aD wr gq 216 (bN qs).toArray/\aBR us ux vm m i t g bo ca) (fun _ _ v143 _=>m-(intOf v143).toNat)
     case atStart=>exact⟨0,0,0,us,by omega,rfl,rfl,rfl,HB.o,HV.o,HU.o,HQ.o,W5.o⟩
     case round=>as_aux_lemma=>
      clear HB HV HU HQ W5;obtain⟨t,bo,ca,ux,ht,rfl,rfl,rfl,hb,hv,hu,hq,hms⟩:=hrel;obtain⟨HB,HV,HU,HQ,W5⟩:=iS hb hv hu hq hms;have a3C:=hms.b1;have a3B:=hms.b2;have YN:=hms.c1;have hfu:=hu.frozen;have aBd:=hu.lt;have aBc:=hv.lt;have HUX:Hid (ux.length=k+m+1):=lH (by rw[hms.ul];exact KK.o);clear hb hv hu hq hms;by_cases htm:t<m
      ·have hcu:=bY HU.o (i:=i+t) (by rw[HUX.o];omega)
       have VM:=bY HV.o (i:=t) (by rw[HVP.o.2.2];omega);have E_:=W5.o.ud.getD (i+t);have RG:=HVW.o.getD t;have aNx:=lH (aAN HVW.o JW.o (by rw[HUX.o];omega) RB htm W5.o);obtain⟨xv,hxv⟩:∃z,vm.getD t 0=z:=⟨_,rfl⟩;obtain⟨xu,hxu⟩:∃z,ux.getD (i+t) 0=z:=⟨_,rfl⟩;rw[HVT.o _ htm,hxv] at VM;rw[hxu] at hcu E_;rw[hxv] at RG;rw[hxv,hxu] at aNx;clear hxv hxu;have hpr:g*xv<=4294967295*4294967295:=Nat.mul_le_mul (by omega) (by omega);have aEP:IntKind.u64.wrap ((g:Int)*(xv:Int))=((g*xv:Nat):Int):=by rw[<-Int.natCast_mul];exact Go.IntWalk.u64_in _ (by omega)
       have aL3:=aNx.o.1;have HMN:=lH aNx.o.2;clear aNx;generalize g*xv=pr at *;have aUS:(ca:Int)+(pr:Int)=((ca+pr:Nat):Int):=(Int.natCast_add _ _).symm;have a3H:bits BinOp.and IntKind.u64 ((ca+pr:Nat):Int) 4294967295=(((ca+pr) % 4294967296:Nat):Int):=aGa _ aL3;have hdv:((ca+pr:Nat):Int) / 4294967296=(((ca+pr) / 4294967296:Nat):Int):=by omega
       have hlo:(ca+pr) % 4294967296<4294967296:=Nat.mod_lt _ (by decide);have hhi:(ca+pr) / 4294967296<4294967296:=by omega
       have JP:ca+pr<18446744073709551616:=aL3;generalize (ca+pr) % 4294967296=lo at *;generalize (ca+pr) / 4294967296=hi at *;generalize ca+pr=sm at *;have eY:Hid (bo+((xu:Int)-(lo:Int))=bo+(xu:Int)-(lo:Int)):=lH (by omega);have iD:=lN t;have tY:Hid (m-(t+1)<m-t):=lH (by omega);have m8:Hid (t+1<=m):=lH htm;have oS:Hid ((bo+((xu:Int)-(lo:Int))) % 4294967296=(((bo+(xu:Int)-(lo:Int)) % 4294967296).toNat:Int)):=lH (by omega);have s1:(t:Int)<(m:Int):=by omega
       have s2:IntKind.i64.wrap ((t:Int)+(i:Int))=(t:Int)+(i:Int):=Go.IntWalk.i64_in _ (by omega);have s3:((t:Int)+(i:Int)).toNat=i+t:=by omega
       have s4:(t:Int)+(i:Int)<(k:Int)+(m:Int)+1:=by omega
       have s5:(0:Int)<=(t:Int)+(i:Int):=by omega
       (go_wp2_with fail);clear s1 s2 s3 s4 s5;go_roundw
       case rel=>exact⟨t+1,_,hi,_,m8.o,aQ iD.o,aQ (by rw[eY.o]),rfl,HB.o.setCell wO _,HV.o.far hnv _,eQ HU.o oS.o,HQ.o.far hnq _,HMN.o⟩
       case measure=>exact tY.o
      ·have hte:t=m:=by omega
       subst hte;have hcu:=bY HU.o (i:=i+t) (by rw[HUX.o];omega);have E_:=W5.o.ud.getD (i+t);have HME:=lH (aD7 W_.o lQ.o W5.o);obtain⟨xu,hxu⟩:∃z,ux.getD (i+t) 0=z:=⟨_,rfl⟩;rw[hxu] at hcu E_ HME;clear hxu;obtain⟨bot,aQ4⟩:∃z:Int,bo+(xu:Int)-(ca:Int)=z:=⟨_,rfl⟩;rw[aQ4] at HME;have HBO:Hid (bo+((xu:Int)-(ca:Int))=bot):=lH (by omega);have aWi:-4294967296<=bot:=by omega
       have a3D:bot<4294967296:=by omega
       have aWh:bo+((xu:Int)-(ca:Int))=bot:=HBO.o;clear aQ4;have s2:IntKind.i64.wrap ((i:Int)+(t:Int))=(i:Int)+(t:Int):=Go.IntWalk.i64_in _ (by omega);have s3:((i:Int)+(t:Int)).toNat=i+t:=by omega
       have s4:(i:Int)+(t:Int)<(k:Int)+(t:Int)+1:=by omega
       have s5:(0:Int)<=(i:Int)+(t:Int):=by omega
       go_upto_if 200 with fail
       clear s2 s3 s4 s5 hcu hfu aBd aBc aWh
       go_cut [14] (fun v14 wc=>∃(g2:Nat)(uy:List Nat),v14=.int .u64 (g2:Int)/\Below v.heap.size v wc/\aD wc gv 216 (bN vs).toArray/\aD wc gu 216 (bN uy).toArray/\aD wc gq 216 (bN qs).toArray/\uy.length=k+t+1/\Wd uy/\wv uy+g2*(wv vm*BB i)=wv us/\wv us<(g2+1)*(wv vm*BB i)/\g2<4294967296)
       case first=>
        by_cases vI:0<=bot
        ·obtain⟨e1,e2⟩:=HME.o.1 vI
         have F3:Hid (bot % 4294967296=(bot.toNat:Int)):=lH (by omega);have HW1:Hid (Wd (ux.set (i+t) bot.toNat)):=lH (W5.o.ud.set _ (by omega));have HL1:Hid ((ux.set (i+t) bot.toNat).length=k+t+1):=lH (by rw[kV];exact HUX.o);have TI:=lH e2;clear e1 e2;(go_wp2_with fail);go_meet
         case rel=>exact⟨g,_,rfl,HB.o.setCell wO _,HV.o.far hnv _,eQ HU.o F3.o,HQ.o.far hnq _,HL1.o,HW1.o,TI.o,lQ.o.up,lQ.o.lt⟩
        ·obtain⟨e1,e2,e3⟩:=HME.o.2 (by omega)
         have aQp:bot<0:=by omega
         obtain⟨nw1,nw2⟩:=aD2 aWi aQp;obtain⟨nw,hnw⟩:∃z,(bot+4294967296).toNat=z:=⟨_,rfl⟩;rw[hnw] at nw1 nw2 e2;have F3:=lH nw1;have zJ:=lH (WH W5.o nw2);clear nw1 nw2 hnw HME;have HL1:Hid ((ux.set (i+t) nw).length=us.length):=lH (by rw[kV,HUX.o,KK.o]);have TI:=lH e2;have HE3:=lH e3;have RC:1<=g:=J7 e3;clear e1 e2 e3 vI;have hgI:(1:Int)<=(g:Int):=Int.ofNat_le.2 RC;have HGM:Hid ((g:Int)-1=((g-1:Nat):Int)):=lH (Int.ofNat_sub RC).symm;have sX:Hid (g-1<4294967296):=lH (zT_ (Nat.sub_le _ _) RB);have aRT:=lH (eQ (i:=i+t) HU.o F3.o);have aY5:=lH (HB.o.setCell (p:=⟨gu,i+t,none⟩) wO (.int .u32 (bot % 4294967296)));have aW7:=lH (HV.o.far (p:=⟨gu,i+t,none⟩) hnv (.int .u32 (bot % 4294967296)));have DT:=lH (HQ.o.far (p:=⟨gu,i+t,none⟩) hnq (.int .u32 (bot % 4294967296)));have hw:IntKind.u64.wrap ((g:Int)-1)=(g:Int)-1:=aCU RC RB;clear HB HV HU HQ W5 HUX;obtain⟨uz,huz⟩:∃l,ux.set (i+t) nw=l:=⟨_,rfl⟩;rw[huz] at zJ HL1 TI aRT;clear huz F3;generalize bot % 4294967296=bm at *;generalize wr.setCell ⟨gu,i+t,none⟩ (.int .u32 bm)=wz at *;(go_wp2_with fail);clear hw
         go_loopw [19,204] (fun v19 v204 wr=>∃(z cc:Nat)(uy:List Nat),z<=t/\v204=.int .i64 z/\v19=.int .u64 (cc:Int)/\Below v.heap.size v wr/\aD wr gv 216 (bN vs).toArray/\aD wr gu 216 (bN uy).toArray/\aD wr gq 216 (bN qs).toArray/\aCe uz uy vm t i z cc) (fun _ v204 _=>t-(intOf v204).toNat)
         case atStart=>exact⟨0,0,uz,Nat.zero_le _,rfl,rfl,aY5.o,aW7.o,aRT.o,DT.o,zJ.o⟩
         case round=>as_aux_lemma=>
          clear aY5 aW7 aRT DT zJ;obtain⟨z,cc,uy,hz,rfl,rfl,hb,hv,hu,hq,AT⟩:=hrel;obtain⟨HB,HV,HU,HQ,zJ⟩:=iS hb hv hu hq AT;have LS:=AT.c1;have hfu:=hu.frozen;have aBd:=hu.lt;have aBc:=hv.lt;have HUY:Hid (uy.length=k+t+1):=lH (by rw[AT.ul,HL1.o,KK.o]);clear hb hv hu hq AT;by_cases hzt:z<t
          ·have hcu:=bY HU.o (i:=i+z) (by rw[HUY.o];omega)
           have VM:=bY HV.o (i:=z) (by rw[HVP.o.2.2];omega);have E_:=zJ.o.ud.getD (i+z);have RG:=HVW.o.getD z;have kL:=lH (aBM HVW.o (by rw[HUY.o];omega) hzt zJ.o);obtain⟨xv,hxv⟩:∃a,vm.getD z 0=a:=⟨_,rfl⟩;obtain⟨xw,hxw⟩:∃a,uy.getD (i+z) 0=a:=⟨_,rfl⟩;rw[HVT.o _ hzt,hxv] at VM;rw[hxw] at hcu E_;rw[hxv] at RG;rw[hxv,hxw] at kL;clear hxv hxw;have eY:=lN z;have iD:Hid (t-(z+1)<t-z):=lH (by omega);have tY:Hid (((cc:Int)+((xw:Int)+(xv:Int))) / 4294967296=(((cc+xw+xv) / 4294967296:Nat):Int)):=lH (by omega);have m8:Hid (((cc:Int)+((xw:Int)+(xv:Int))) % 4294967296=(((cc+xw+xv) % 4294967296:Nat):Int)):=lH (by omega);have s1:(z:Int)<(t:Int):=by omega
           have s2:IntKind.i64.wrap ((z:Int)+(i:Int))=(z:Int)+(i:Int):=Go.IntWalk.i64_in _ (by omega);have s3:((z:Int)+(i:Int)).toNat=i+z:=by omega
           have s4:(z:Int)+(i:Int)<(k:Int)+(t:Int)+1:=by omega
           have s5:(0:Int)<=(z:Int)+(i:Int):=by omega
           have aPT:IntKind.u64.wrap ((xw:Int)+(xv:Int))=(xw:Int)+(xv:Int):=Go.IntWalk.u64_in _ (by omega);have aPS:IntKind.u64.wrap ((cc:Int)+((xw:Int)+(xv:Int)))=(cc:Int)+((xw:Int)+(xv:Int)):=Go.IntWalk.u64_in _ (by omega);(go_wp2_with fail)
           go_quiet (fail)
           (go_wp2_with fail);clear s1 s2 s3 s4 s5 aPT aPS;go_roundw
           case rel=>exact⟨z+1,_,_,hzt,aQ eY.o,aQ tY.o,bF (HB.o.setCell wO _) _,(HV.o.far hnv _).drewN _,(eQ HU.o m8.o).drewN _,(HQ.o.far hnq _).drewN _,kL.o⟩
           case measure=>exact iD.o
          ·have hze:z=t:=by omega
           subst hze;have hcu:=bY HU.o (i:=i+z) (by rw[HUY.o];omega);have E_:=zJ.o.ud.getD (i+z);obtain⟨xw,hxw⟩:∃a,uy.getD (i+z) 0=a:=⟨_,rfl⟩;have HBE:=lH (aF8 W_.o lQ.o HL1.o TI.o HE3.o zJ.o hxw HUY.o);rw[hxw] at hcu E_;clear hxw;have m8:=lH (aBH xw cc);have s2:IntKind.i64.wrap ((i:Int)+(z:Int))=(i:Int)+(z:Int):=Go.IntWalk.i64_in _ (by omega);have s3:((i:Int)+(z:Int)).toNat=i+z:=by omega
           have s4:(i:Int)+(z:Int)<(k:Int)+(z:Int)+1:=by omega
           have s5:(0:Int)<=(i:Int)+(z:Int):=by omega
           have aWc:(cc:Int) % 4294967296=(cc:Int):=by omega
           have hw2:IntKind.u32.wrap ((xw:Int)+(cc:Int))=((xw:Int)+(cc:Int)) % 4294967296:=aCV _;(go_wp2_with fail);clear s2 s3 s4 s5 aWc hw2;go_meet
           case rel=>exact⟨g-1,_,aQ HGM.o,HB.o.setCell wO _,HV.o.far hnv _,eQ HU.o m8.o,HQ.o.far hnq _,HBE.o.1.1,HBE.o.1.2,HBE.o.2.1,HBE.o.2.2,sX.o⟩
       clear HB HV HU HQ W5 HUX HME lQ RB;obtain⟨g2,uy,rfl,hb,hv,hu,hq,aPO,aPN,LR,aR,RB⟩:=hcut;obtain⟨HB,HV,HU,HQ,aW8⟩:=iS hb hv hu hq aPO;have aYf:=lH (TY gZ.o (by rw[lP.o];omega) aPN RB LR aR);have aXV:Hid ((qs.set i g2).length=k+1):=lH (by rw[kV];exact lP.o);have hfq:=hq.frozen;have a3n:=hq.lt;have hcq:=bY hq (i:=i) (by rw[lP.o];omega);obtain⟨zq,hzq⟩:∃a,qs.getD i 0=a:=⟨_,rfl⟩;rw[hzq] at hcq;have eY:Hid (i<=k+1):=lH (by omega);have iD:Hid ((intOf (Value.int .i64 ((i:Int)-1))+1).toNat<(intOf (Value.int .i64 (i:Int))+1).toNat):=lH (by simp[intOf]);have aQK:(i:Int)<(k:Int)+1:=by omega
       have hgm:(g2:Int) % 4294967296=(g2:Int):=by omega
       clear hb hv hu hq aPO aPN LR aR hzq;(go_wp2_with fail);go_roundw
       case rel=>exact⟨i,uy,qs.set i g2,eY.o,rfl,HB.o.setCell aVQ _,HV.o.far aU9 _,HU.o.far aU_ _,aW8.o,eQ HQ.o rfl,aXV.o,aYf.o⟩
       case measure=>exact iD.o
end
section
open Go.ChangeShapes Go.WideShapes Go.ChangeAt Go.RowKit
structure cQ (w:Wo) (B:Nat) (q:Rat) (b1:Bool) (A:OA) (n c:Nat) (b2:Bool) (A2:OA) (m d:Nat):Prop where
 num:bW w B q.num b1 A n c
 den:bW w B (q.den:Int) b2 A2 m d
section
variable {w w':Wo} {B B':Nat} {q:Rat} {b1:Bool} {A:OA} {n c:Nat} {b2:Bool} {A2:OA} {m d:Nat}
theorem cQ.below(h:cQ w B q b1 A n c b2 A2 m d)(hb:Below B' w w')(hB:B<=B'):cQ w' B q b1 A n c b2 A2 m d:=⟨h.num.below hb hB,h.den.below hb hB⟩
theorem cQ.more(h:cQ w B q b1 A n c b2 A2 m d)(hB:B<=B'):cQ w B' q b1 A n c b2 A2 m d:=⟨h.num.more hB,h.den.more hB⟩
theorem cQ.up(h:cQ w w.heap.size q b1 A n c b2 A2 m d)(hb:Below w.heap.size w w'):cQ w' w'.heap.size q b1 A n c b2 A2 m d:=⟨h.num.up hb,h.den.up hb⟩
theorem cQ.keep(h:cQ w w.heap.size q b1 A n c b2 A2 m d){p:Addr}(hp:w.cell? p=some v)(hv:∀k x,v≠.int k x)(u:Value):cQ (w.setCell p u) (w.setCell p u).heap.size q b1 A n c b2 A2 m d:=⟨h.num.keep hp hv u,h.den.keep hp hv u⟩
theorem cQ.n_le(h:cQ w B q b1 A n c b2 A2 m d):n<=bE q:=by rw[h.num.en];exact aH9 q
theorem cQ.m_le(h:cQ w B q b1 A n c b2 A2 m d):m<=bE q:=by rw[h.den.en,Int.natAbs_natCast];exact XZ q
theorem cQ.pos(h:cQ w B q b1 A n c b2 A2 m d):b2=false:=by rw[h.den.eb];simp
end
def RtP(q:Rat)(w:Wo)(e:Ending)(w':Wo):Prop:=Below w.heap.size w w'/\∃b1 A n c b2 A2 m d,e=.returned (.agg #[.bool b1,.slice A n c,.bool b2,.slice A2 m d])/\cQ w' w'.heap.size q b1 A n c b2 A2 m d
theorem fU{x0 x1 x2 x3:Value}(h:aD w p t #[x0,x1,x2,x3]):aD ((((w.setCell ⟨p,0,none⟩ v0).setCell ⟨p,1,none⟩ v1).setCell ⟨p,2,none⟩ v2).setCell ⟨p,3,none⟩ v3) p t #[v0,v1,v2,v3]:=
 (((h.set_at (i:=0) (cs':=#[v0,x1,x2,x3]) v0 (by simp)).set_at (i:=1) (cs':=#[v0,v1,x2,x3]) v1 (by simp)).set_at (i:=2) (cs':=#[v0,v1,v2,x3]) v2 (by simp)).set_at (i:=3) v3 (by simp)
theorem I2{a:Wo}{B:Nat}(h:Below B a w)(hp:B<=p):Below B a ((((w.setCell ⟨p,0,none⟩ v0).setCell ⟨p,1,none⟩ v1).setCell ⟨p,2,none⟩ v2).setCell ⟨p,3,none⟩ v3):=(((h.setCell hp _).setCell hp _).setCell hp _).setCell hp _
theorem nF{w2:Wo}{T:Nat}{q:Rat}{b1:Bool}{b2:Bool}{A2:OA}(hb:Below w.heap.size w w2)(hg:w.heap.size<=g)(hB:aD w2 g T #[v0,v1,v2,v3])(h0:∀k x,v0≠.int k x)(h1:∀k x,v1≠.int k x)(h2:∀k x,v2≠.int k x)(h3:∀k x,v3≠.int k x)(h:cQ w2 w2.heap.size q b1 A n c b2 A2 m d)(he:e=.returned (.agg #[.bool b1,.slice A n c,.bool b2,.slice A2 m d])):RtP q w e ((((w2.setCell ⟨g,0,none⟩ (.bool b1)).setCell ⟨g,1,none⟩ (.slice A n c)).setCell ⟨g,2,none⟩ (.bool b2)).setCell ⟨g,3,none⟩ (.slice A2 m d)):=by
 refine⟨I2 hb hg,b1,A,n,c,b2,A2,m,d,he,?_⟩;have B1:=hB.set_at (i:=0) (cs':=#[.bool b1,v1,v2,v3]) (.bool b1) (by simp);have B2:=B1.set_at (i:=1) (cs':=#[.bool b1,.slice A n c,v2,v3]) (.slice A n c) (by simp);have B3:=B2.set_at (i:=2) (cs':=#[.bool b1,.slice A n c,.bool b2,v3]) (.bool b2) (by simp);exact(((h.keep (hB.cell 0) h0 _).keep (B1.cell 1) h1 _).keep (B2.cell 2) h2 _).keep (B3.cell 3) h3 _
end

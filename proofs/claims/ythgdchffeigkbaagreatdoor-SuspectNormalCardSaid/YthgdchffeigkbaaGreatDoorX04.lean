import Derived.Test.YthgdchffeigkbaaGreatDoorX01
import Derived.Test.YthgdchffeigkbaaGreatDoorX02
import Derived.Deep.OwnRows
import Derived.Laws.Bits64b
set_option linter.unusedVariables false
set_option linter.unusedSimpArgs false
namespace Go.Proofs.YthgdchffeigkbaaGreatDoor
section
open Go.ChangeShapes Go.WideShapes Go.ChangeAt Go.RowKit
theorem FG (n:Int):IntKind.u64.wrap n=n % 18446744073709551616:=by
 simp [IntKind.wrap,IntKind.bits,IntKind.signed]
theorem aCo (n:Int):IntKind.u32.wrap n=n % 4294967296:=by
 simp [IntKind.wrap,IntKind.bits,IntKind.signed]
def bQ (l:List Nat):List Value:=l.map fun (x:Nat)=>Value.int .u32 (x:Int)
def iR (w:Wo) (B:Nat) (A:OA) (n:Nat) (l:List Nat):Prop:=Rd w B 1 A n (bQ l)
section
variable {w w':Wo} {B B' n:Nat} {A:OA} {l:List Nat}
theorem iR.len (h:iR w B A n l):l.length=n:=by have:=h.1;simp [bQ] at this;omega
theorem iR.below (h:iR w B A n l) (hb:Below B' w w') (hB:B<=B'):iR w' B A n l:=Rd.below h hb hB
theorem iR.more (h:iR w B A n l) (hB:B<=B'):iR w B' A n l:=Rd.more h hB
theorem iR.up (h:iR w w.heap.size A n l) (hb:Below w.heap.size w w'):iR w' w'.heap.size A n l:=(h.below hb lR).more hb.size
theorem iR.lift {g:Nat} (h:iR w g A n l) (hb:Below g w w') (hg:g<=w'.heap.size):iR w' w'.heap.size A n l:=(h.below hb lR).more hg
theorem iR.form (h:iR w B A n l) (h0:0<n):∃ b off,A=some ⟨b,off,none⟩/\b<B:=by
 obtain ⟨b,off,e,aW,_⟩:=h.2 h0;exact ⟨b,off,e,aW⟩
theorem iR.at_ {b off i:Nat} (h:iR w B (some ⟨b,off,none⟩) n l) (hi:i<n):w.cell? ⟨b,off+i,none⟩=some (.int .u32 ((l.getD i 0:Nat):Int)):=by
 have hl:=h.len;obtain ⟨b',off',e,_,hc⟩:=h.2 (by omega);injection e with e;injection e with e1 e2;subst e1;subst e2;refine hc i _ ?_;unfold bQ;rw [kI,jA (by omega),eY,jA (by omega)];rfl
theorem iR.take {k:Nat} (h:iR w B A n l) (hk:k<=n):iR w B A k (l.take k):=by
 have hl:=h.len;refine ⟨by simp [bQ];omega,fun h0=>?_⟩;obtain ⟨b,off,e,aW,hc⟩:=h.2 (by omega);refine ⟨b,off,e,aW,fun j u hu=>hc j u ?_⟩;unfold bQ at hu ⊢;rw [List.map_take] at hu;have hj:=(dP.1 hu).1;rw [jP] at hj;rwa [List.getElem?_take_of_lt (by omega)] at hu
theorem zK (w:Wo) (B:Nat) (A:OA):iR w B A 0 []:=⟨rfl,fun h=>by omega⟩
theorem qD {g:Nat} {t:TypeId} (h:aG w g t (bQ l).toArray):iR w w.heap.size (some ⟨g,0,none⟩) l.length l:=
 ⟨by simp [bQ],fun _=>⟨g,0,rfl,h.lt,fun j u hu=>by
  rw [show (⟨g,0+j,none⟩:Addr)=⟨g,j,none⟩ from by simp,h.cell j];simpa using hu⟩⟩
end
theorem aG0 {l:List Nat} {i x:Nat} {v:Int} (hv:v=(x:Int)):(bQ l).toArray.setIfInBounds i (.int .u32 v)=(bQ (l.set i x)).toArray:=by
 subst hv;unfold bQ;rw [List.map_set];simp
theorem aCp (n:Nat):madeCells #[Value.int .u32 0] n=(bQ (List.replicate n 0)).toArray:=by
 apply Array.ext';rw [toList_madeCells_one];unfold bQ;simp
theorem cI {w:Wo} {g t i:Nat} {l:List Nat} (h:aG w g t (bQ l).toArray) (hi:i<l.length):w.cell? ⟨g,i,none⟩=some (.int .u32 ((l.getD i 0:Nat):Int)):=by
 rw [h.cell i];unfold bQ;rw [List.getElem?_toArray,kI,jA hi,eY,jA hi];rfl
theorem eM {w:Wo} {g t i x:Nat} {l:List Nat} {v:Int} (h:aG w g t (bQ l).toArray) (hv:v=(x:Int)):aG (w.setCell ⟨g,i,none⟩ (.int .u32 v)) g t (bQ (l.set i x)).toArray:=h.set_at _ (aG0 hv)
theorem aQ {k:IntKind} {a b:Int} (h:a=b):Value.int k a=Value.int k b:=by rw [h]
theorem GJ:(Tryz.prog.info? 216).map (fun i=>(i.zero,i.size,i.bytes))=some (some (.int .u32 0),1,4):=by kernel_rfl
theorem pG (n:Nat) (hn:n<=70368744177664) (w:Wo):(Instr.makeSlice 111 (.int .i64 (n:Int)) (.int .i64 (n:Int))).run Tryz.prog w=.ok (.slice (some ⟨w.heap.size,0,none⟩) n n) (w.alloc (.cells (bQ (List.replicate n 0)).toArray 216)):=by
 rw [run_make_row' (P:=Tryz.prog) 111 216 (.int .u32 0) 4 Tryz.underlying111 GJ rfl .i64 .i64 n (by omega) (by omega) w,aCp]
theorem zP (r x s:Nat) (hs:s<=32) (hr:r<4294967296) (hx:x<2^s):bits .or .u64 ((r:Int)*((2^s:Nat):Int)) (x:Int)=((r*2^s+x:Nat):Int):=by
 have hp:2^s<=4294967296:=Nat.pow_le_pow_right (by decide) hs;have h1:r*2^s<=4294967295*4294967296:=Nat.mul_le_mul (by omega) hp;rw [<-Int.natCast_mul,u64_or_nat _ _ (by omega) (by omega)];congr 1
 rw [Nat.mul_comm];exact (Nat.two_pow_add_eq_or_of_lt hx r).symm
theorem aDj (c x s:Nat) (hc:c<2^s) (h:c+x*2^s<18446744073709551616):bits .or .u64 (c:Int) (IntKind.u64.wrap ((x:Int)*2^s))=((c+x*2^s:Nat):Int):=by
 have e:(x:Int)*2^s=((x*2^s:Nat):Int):=by rw [Int.natCast_mul,Int.natCast_pow];rfl
 rw [e,FG];rw [show ((x*2^s:Nat):Int) % 18446744073709551616=((x*2^s:Nat):Int) from by omega];rw [u64_or_nat _ _ (by omega) (by omega)];congr 1
 rw [Nat.or_comm,Nat.mul_comm x,<-Nat.two_pow_add_eq_or_of_lt hc,Nat.add_comm]
theorem aFs (a:Nat) (h:a<18446744073709551616):bits .and .u64 (a:Int) 4294967295=((a % 4294967296:Nat):Int):=by
 have:=u64_and_nat a 4294967295 h (by decide);rw [show ((4294967295:Nat):Int)=4294967295 from rfl] at this;rw [this];congr 1
 exact Nat.and_two_pow_sub_one_eq_mod a 32
theorem aCn {g:Nat} (h1:1<=g) (h2:g<4294967296):IntKind.u64.wrap ((g:Int)-1)=(g:Int)-1:=Go.IntWalk.u64_in _ (by omega)
theorem aA2 (a b:Nat):((a:Int)+(b:Int)) % 4294967296=(((a+b) % 4294967296:Nat):Int):=by omega
theorem OR (a b:Nat):((a:Int)).tmod (b:Int)=((a % b:Nat):Int):=rfl
theorem OS (a b:Nat):((a:Int)).tdiv (b:Int)=((a / b:Nat):Int):=rfl
theorem aME {W w1:Wo} (hb:Below W.heap.size W w1):(∀ b o,b<W.heap.size->w1.cell? ⟨b,o,none⟩=W.cell? ⟨b,o,none⟩)/\(∀ b o,b<W.heap.size->w1.frozen? ⟨b,o,none⟩=W.frozen? ⟨b,o,none⟩):=
 ⟨fun b o h=>hb.cell (p:=⟨b,o,none⟩) h,fun b o h=>hb.frozen (p:=⟨b,o,none⟩) h⟩
def aFz (v:Nat) (w:Wo) (e:Ending) (w':Wo):Prop:=Below w.heap.size w w'/\∃ A n c l,e=.returned (.slice A n c)/\iR w' w'.heap.size A n l/\Wd l/\wv l=v/\n<=c/\c<=9223372036854775807
theorem KM {v:Nat} {w w':Wo} {e:Ending} {g t n:Nat} {l:List Nat} (hb:Below w.heap.size w w') (h:aG w' g t (bQ l).toArray) (hl:l.length=n) (hd:Wd l) (hv:wv l=v) (hn:n<=9223372036854775807) (he:e=.returned (.slice (some ⟨g,0,none⟩) n n)):aFz v w e w':=
 ⟨hb,_,n,n,l,he,by subst hl;exact qD h,hd,hv,lR,hn⟩
def BJ (m:Bool) (v:Nat):Int:=if m then -(v:Int) else v
theorem EO (m:Bool) (v:Nat):(BJ m v).natAbs=v:=by unfold BJ;split<;>simp
theorem W6 (m:Bool) (v:Nat):decide (BJ m v<0)=(m && decide (0<v)):=by
 unfold BJ;cases m with
 | true=>simp
 | false=>simp
theorem aCI (z:Int):BJ (decide (z<0)) z.natAbs=z:=by
 unfold BJ
 by_cases h:z<0
 ·rw [if_pos (by simpa using h)];omega
 ·rw [if_neg (by simpa using h)];omega
theorem cD {w:Wo} {p t:Nat} {v0 v1 x0 x1:Value} (h:aG w p t #[x0,x1]):aG ((w.setCell ⟨p,0,none⟩ v0).setCell ⟨p,1,none⟩ v1) p t #[v0,v1]:=
 (h.set_at (i:=0) (cs':=#[v0,x1]) v0 (by simp)).set_at (i:=1) v1 (by simp)
theorem cW {a w:Wo} {B p:Nat} {v0 v1:Value} (h:Below B a w) (hp:B<=p):Below B a ((w.setCell ⟨p,0,none⟩ v0).setCell ⟨p,1,none⟩ v1):=(h.setCell hp _).setCell hp _
structure cG (w:Wo) (B:Nat) (z:Int) (b:Bool) (A:OA) (n c:Nat):Prop where
 eb:b=decide (z<0)
 en:n=dK z.natAbs
 rd:iR w B A n (jN z.natAbs)
 nc:n<=c
 cm:c<=9223372036854775807
section
variable {w w':Wo} {B B':Nat} {z:Int} {b:Bool} {A:OA} {n c:Nat}
theorem cG.below (h:cG w B z b A n c) (hb:Below B' w w') (hB:B<=B'):cG w' B z b A n c:=⟨h.eb,h.en,h.rd.below hb hB,h.nc,h.cm⟩
theorem cG.more (h:cG w B z b A n c) (hB:B<=B'):cG w B' z b A n c:=⟨h.eb,h.en,h.rd.more hB,h.nc,h.cm⟩
theorem cG.up (h:cG w w.heap.size z b A n c) (hb:Below w.heap.size w w'):cG w' w'.heap.size z b A n c:=(h.below hb lR).more hb.size
theorem cG.val (h:cG w B z b A n c):BJ b (wv (jN z.natAbs))=z:=by rw [d8,h.eb,aCI]
theorem L_ {l:List Nat} {j:Nat} {u:Value} (h:(bQ l)[j]?=some u):∃ x,u=.int .u32 x:=by
 unfold bQ at h;rw [kI] at h;obtain ⟨x,_,he⟩:=Option.map_eq_some_iff.1 h;exact ⟨_,he.symm⟩
theorem aCZ {l:List Nat} (h:iR w B A n l) {p:Addr} {v:Value} (hp:w.cell? p=some v) (hv:∀ k x,v≠.int k x) (u:Value):iR (w.setCell p u) B A n l:=
 ⟨h.1,fun hn=>by
  obtain ⟨b,off,e,aW,hc⟩:=h.2 hn;refine ⟨b,off,e,aW,fun j y hy=>?_⟩;have U9:=hc j y hy;have cP:(⟨b,off+j,none⟩:Addr)≠p:=by
   intro he;rw [he,hp] at U9;obtain ⟨x,rfl⟩:=L_ hy;injection U9 with U9;exact hv _ _ U9
  rw [World.cell?_setCell_other _ _ _ _ (Ne.symm cP)];exact U9⟩
theorem cG.keep (h:cG w w.heap.size z b A n c) {p:Addr} {v:Value} (hp:w.cell? p=some v) (hv:∀ k x,v≠.int k x) (u:Value):cG (w.setCell p u) (w.setCell p u).heap.size z b A n c:=by
 have hs:(w.setCell p u).heap.size=w.heap.size:=by simp
 rw [hs];exact ⟨h.eb,h.en,aCZ h.rd hp hv u,h.nc,h.cm⟩
end
def LgP (z:Int) (w:Wo) (e:Ending) (w':Wo):Prop:=Below w.heap.size w w'/\∃ b A n c,e=.returned (.agg #[.bool b,.slice A n c])/\cG w' w'.heap.size z b A n c
theorem aLE {m:Bool} {A:OA} {k c v:Nat} {l:List Nat} {w w':Wo} {e:Ending} (hb:Below w.heap.size w w') (hl:l=jN v) (hk:l.length=k) (hr:iR w' w'.heap.size A k l) (hkc:k<=c) (JJ:c<=9223372036854775807) (he:e=.returned (.agg #[.bool (m && decide (0<k)),.slice A k c])):LgP (BJ m v) w e w':=by
 have AW:k=dK v:=by rw [<-hk,hl];rfl
 have h0:decide (0<k)=decide (0<v):=by
  by_cases hv:v=0
  ·subst hv;rw [AW,hO]
  ·rw [AW,jK hv];simp;omega
 refine ⟨hb,_,A,k,c,he,?_,?_,?_,hkc,JJ⟩
 ·rw [W6,h0]
 ·rw [EO];exact AW
 ·rw [EO,<-hl];exact hr
theorem nU {w w2:Wo} {g T:Nat} {v0 v1:Value} {z:Int} {b:Bool} {A:OA} {n c:Nat} {e:Ending} (hb:Below w.heap.size w w2) (hg:w.heap.size<=g) (hB:aG w2 g T #[v0,v1]) (h0:∀ k x,v0≠.int k x) (h1:∀ k x,v1≠.int k x) (h:cG w2 w2.heap.size z b A n c) (he:e=.returned (.agg #[.bool b,.slice A n c])) :
    LgP z w e ((w2.setCell ⟨g,0,none⟩ (.bool b)).setCell ⟨g,1,none⟩ (.slice A n c)):=
 ⟨cW hb hg,b,A,n,c,he,(h.keep (hB.cell 0) h0 _).keep ((hB.set_ 0 (.bool b)).cell 1) (by simpa using h1) _⟩
theorem iR.bm {w w':Wo} {n:Nat} {A:OA} {l:List Nat} (h:iR w w.heap.size A n l) (g:Below w.heap.size w w'):iR w' w'.heap.size A n l:=(h.below g lR).more g.size
end

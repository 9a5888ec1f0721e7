import Derived.Test.YthgdchffeigkbaaGreatDoorU01
import Derived.Test.YthgdchffeigkbaaGreatDoorU02
import Derived.Deep.OwnRows
import Derived.Laws.Bits64b
set_option linter.unusedVariables false
set_option linter.unusedSimpArgs false
namespace Go.Proofs.YthgdchffeigkbaaGreatDoor
section
open Go.ChangeShapes Go.WideShapes Go.ChangeAt Go.RowKit
theorem u64_wrap (n:Int):IntKind.u64.wrap n=n % 18446744073709551616:=by
 simp [IntKind.wrap,IntKind.bits,IntKind.signed]
theorem u32_wrap (n:Int):IntKind.u32.wrap n=n % 4294967296:=by
 simp [IntKind.wrap,IntKind.bits,IntKind.signed]
def u32s (l:List Nat):List Value:=l.map fun (x:Nat)=>Value.int .u32 (x:Int)
def RdW (w:World) (B:Nat) (A:Option Addr) (n:Nat) (l:List Nat):Prop:=Rd w B 1 A n (u32s l)
section
variable {w w':World} {B B' n:Nat} {A:Option Addr} {l:List Nat}
theorem RdW.len (h:RdW w B A n l):l.length=n:=by have:=h.1;simp [u32s] at this;omega
theorem RdW.below (h:RdW w B A n l) (hb:Below B' w w') (hB:B≤B'):RdW w' B A n l:=Rd.below h hb hB
theorem RdW.more (h:RdW w B A n l) (hB:B≤B'):RdW w B' A n l:=Rd.more h hB
theorem RdW.up (h:RdW w w.heap.size A n l) (hb:Below w.heap.size w w'):RdW w' w'.heap.size A n l:=(h.below hb lR).more hb.size
theorem RdW.lift {g:Nat} (h:RdW w g A n l) (hb:Below g w w') (hg:g≤w'.heap.size):RdW w' w'.heap.size A n l:=(h.below hb lR).more hg
theorem RdW.form (h:RdW w B A n l) (h0:0<n):∃ b off,A=some ⟨b,off,none⟩∧b<B:=by
 obtain ⟨b,off,e,hlt,_⟩:=h.2 h0;exact ⟨b,off,e,hlt⟩
theorem RdW.at_ {b off i:Nat} (h:RdW w B (some ⟨b,off,none⟩) n l) (hi:i<n):w.cell? ⟨b,off+i,none⟩=some (.int .u32 ((l.getD i 0:Nat):Int)):=by
 have hl:=h.len;obtain ⟨b',off',e,_,hc⟩:=h.2 (by omega);injection e with e;injection e with e1 e2;subst e1;subst e2;refine hc i _ ?_;unfold u32s;rw [zM_,zA_ (by omega),zD_,zA_ (by omega)];rfl
theorem RdW.take {k:Nat} (h:RdW w B A n l) (hk:k≤n):RdW w B A k (l.take k):=by
 have hl:=h.len;refine ⟨by simp [u32s];omega,fun h0=>?_⟩;obtain ⟨b,off,e,hlt,hc⟩:=h.2 (by omega);refine ⟨b,off,e,hlt,fun j u hu=>hc j u ?_⟩;unfold u32s at hu ⊢;rw [List.map_take] at hu;have hj:=(zB_.1 hu).1;rw [zF_] at hj;rwa [List.getElem?_take_of_lt (by omega)] at hu
theorem rdW_nil (w:World) (B:Nat) (A:Option Addr):RdW w B A 0 []:=⟨rfl,fun h=>by omega⟩
theorem rdW_blk {g:Nat} {t:TypeId} (h:Blk w g t (u32s l).toArray):RdW w w.heap.size (some ⟨g,0,none⟩) l.length l:=
 ⟨by simp [u32s],fun _=>⟨g,0,rfl,h.lt,fun j u hu=>by
  rw [show (⟨g,0+j,none⟩:Addr)=⟨g,j,none⟩ from by simp,h.cell j];simpa using hu⟩⟩
end
theorem u32_set {l:List Nat} {i x:Nat} {v:Int} (hv:v=(x:Int)):(u32s l).toArray.setIfInBounds i (.int .u32 v)=(u32s (l.set i x)).toArray:=by
 subst hv;unfold u32s;rw [List.map_set];simp
theorem u32_made (n:Nat):madeCells #[Value.int .u32 0] n=(u32s (List.replicate n 0)).toArray:=by
 apply Array.ext';rw [toList_madeCells_one];unfold u32s;simp
theorem blkW_cell {w:World} {g t i:Nat} {l:List Nat} (h:Blk w g t (u32s l).toArray) (hi:i<l.length):w.cell? ⟨g,i,none⟩=some (.int .u32 ((l.getD i 0:Nat):Int)):=by
 rw [h.cell i];unfold u32s;rw [List.getElem?_toArray,zM_,zA_ hi,zD_,zA_ hi];rfl
theorem blkW_set {w:World} {g t i x:Nat} {l:List Nat} {v:Int} (h:Blk w g t (u32s l).toArray) (hv:v=(x:Int)):Blk (w.setCell ⟨g,i,none⟩ (.int .u32 v)) g t (u32s (l.set i x)).toArray:=h.set_at _ (u32_set hv)
theorem val_int {k:IntKind} {a b:Int} (h:a=b):Value.int k a=Value.int k b:=by rw [h]
theorem info_u32:(Tryz.prog.info? 216).map (fun i=>(i.zero,i.size,i.bytes))=some (some (.int .u32 0),1,4):=by kernel_rfl
theorem make_u32 (n:Nat) (hn:n≤70368744177664) (w:World):(Instr.makeSlice 111 (.int .i64 (n:Int)) (.int .i64 (n:Int))).run Tryz.prog w=.ok (.slice (some ⟨w.heap.size,0,none⟩) n n) (w.alloc (.cells (u32s (List.replicate n 0)).toArray 216)):=by
 rw [run_make_row' (P:=Tryz.prog) 111 216 (.int .u32 0) 4 Tryz.underlying111 info_u32 rfl .i64 .i64 n (by omega) (by omega) w,u32_made]
theorem or_words (r x s:Nat) (hs:s≤32) (hr:r<4294967296) (hx:x<2^s):bits .or .u64 ((r:Int)*((2^s:Nat):Int)) (x:Int)=((r*2^s+x:Nat):Int):=by
 have hp:2^s≤4294967296:=Nat.pow_le_pow_right (by decide) hs;have h1:r*2^s≤4294967295*4294967296:=Nat.mul_le_mul (by omega) hp;rw [←Int.natCast_mul,u64_or_nat _ _ (by omega) (by omega)];congr 1
 rw [Nat.mul_comm];exact (Nat.two_pow_add_eq_or_of_lt hx r).symm
theorem or_shift (c x s:Nat) (hc:c<2^s) (h:c+x*2^s<18446744073709551616):bits .or .u64 (c:Int) (IntKind.u64.wrap ((x:Int)*2^s))=((c+x*2^s:Nat):Int):=by
 have e:(x:Int)*2^s=((x*2^s:Nat):Int):=by rw [Int.natCast_mul,Int.natCast_pow];rfl
 rw [e,u64_wrap];rw [show ((x*2^s:Nat):Int) % 18446744073709551616=((x*2^s:Nat):Int) from by omega];rw [u64_or_nat _ _ (by omega) (by omega)];congr 1
 rw [Nat.or_comm,Nat.mul_comm x,←Nat.two_pow_add_eq_or_of_lt hc,Nat.add_comm]
theorem and_mask (a:Nat) (h:a<18446744073709551616):bits .and .u64 (a:Int) 4294967295=((a % 4294967296:Nat):Int):=by
 have:=u64_and_nat a 4294967295 h (by decide);rw [show ((4294967295:Nat):Int)=4294967295 from rfl] at this;rw [this];congr 1
 exact Nat.and_two_pow_sub_one_eq_mod a 32
theorem u64_pred {g:Nat} (h1:1≤g) (h2:g<4294967296):IntKind.u64.wrap ((g:Int)-1)=(g:Int)-1:=Go.IntWalk.u64_in _ (by omega)
theorem cast_mod2 (a b:Nat):((a:Int)+(b:Int)) % 4294967296=(((a+b) % 4294967296:Nat):Int):=by omega
theorem tmod_nat (a b:Nat):((a:Int)).tmod (b:Int)=((a % b:Nat):Int):=rfl
theorem tdiv_nat (a b:Nat):((a:Int)).tdiv (b:Int)=((a / b:Nat):Int):=rfl
theorem bcellW {W w1:World} (hb:Below W.heap.size W w1):(∀ b o,b<W.heap.size→w1.cell? ⟨b,o,none⟩=W.cell? ⟨b,o,none⟩)∧(∀ b o,b<W.heap.size→w1.frozen? ⟨b,o,none⟩=W.frozen? ⟨b,o,none⟩):=
 ⟨fun b o h=>hb.cell (p:=⟨b,o,none⟩) h,fun b o h=>hb.frozen (p:=⟨b,o,none⟩) h⟩
def OutWP (v:Nat) (w:World) (e:Ending) (w':World):Prop:=Below w.heap.size w w'∧∃ A n c l,e=.returned (.slice A n c)∧RdW w' w'.heap.size A n l∧Wd l∧wv l=v∧n≤c∧c≤9223372036854775807
theorem outWP_blk {v:Nat} {w w':World} {e:Ending} {g t n:Nat} {l:List Nat} (hb:Below w.heap.size w w') (h:Blk w' g t (u32s l).toArray) (hl:l.length=n) (hd:Wd l) (hv:wv l=v) (hn:n≤9223372036854775807) (he:e=.returned (.slice (some ⟨g,0,none⟩) n n)):OutWP v w e w':=
 ⟨hb,_,n,n,l,he,by subst hl;exact rdW_blk h,hd,hv,lR,hn⟩
def sgn (m:Bool) (v:Nat):Int:=if m then -(v:Int) else v
theorem sgn_abs (m:Bool) (v:Nat):(sgn m v).natAbs=v:=by unfold sgn;split<;>simp
theorem sgn_neg (m:Bool) (v:Nat):decide (sgn m v<0)=(m && decide (0<v)):=by
 unfold sgn;cases m with
 | true=>simp
 | false=>simp
theorem sgn_self (z:Int):sgn (decide (z<0)) z.natAbs=z:=by
 unfold sgn
 by_cases h:z<0
 ·rw [if_pos (by simpa using h)];omega
 ·rw [if_neg (by simpa using h)];omega
theorem blk_set2 {w:World} {p t:Nat} {v0 v1 x0 x1:Value} (h:Blk w p t #[x0,x1]):Blk ((w.setCell ⟨p,0,none⟩ v0).setCell ⟨p,1,none⟩ v1) p t #[v0,v1]:=
 (h.set_at (i:=0) (cs':=#[v0,x1]) v0 (by simp)).set_at (i:=1) v1 (by simp)
theorem below_set2 {a w:World} {B p:Nat} {v0 v1:Value} (h:Below B a w) (hp:B≤p):Below B a ((w.setCell ⟨p,0,none⟩ v0).setCell ⟨p,1,none⟩ v1):=(h.setCell hp _).setCell hp _
structure LgIs (w:World) (B:Nat) (z:Int) (b:Bool) (A:Option Addr) (n c:Nat):Prop where
 eb:b=decide (z<0)
 en:n=dlen z.natAbs
 rd:RdW w B A n (dig z.natAbs)
 nc:n≤c
 cm:c≤9223372036854775807
section
variable {w w':World} {B B':Nat} {z:Int} {b:Bool} {A:Option Addr} {n c:Nat}
theorem LgIs.below (h:LgIs w B z b A n c) (hb:Below B' w w') (hB:B≤B'):LgIs w' B z b A n c:=⟨h.eb,h.en,h.rd.below hb hB,h.nc,h.cm⟩
theorem LgIs.more (h:LgIs w B z b A n c) (hB:B≤B'):LgIs w B' z b A n c:=⟨h.eb,h.en,h.rd.more hB,h.nc,h.cm⟩
theorem LgIs.up (h:LgIs w w.heap.size z b A n c) (hb:Below w.heap.size w w'):LgIs w' w'.heap.size z b A n c:=(h.below hb lR).more hb.size
theorem LgIs.val (h:LgIs w B z b A n c):sgn b (wv (dig z.natAbs))=z:=by rw [wv_dig,h.eb,sgn_self]
theorem u32_int {l:List Nat} {j:Nat} {u:Value} (h:(u32s l)[j]?=some u):∃ x,u=.int .u32 x:=by
 unfold u32s at h;rw [zM_] at h;obtain ⟨x,_,he⟩:=Option.map_eq_some_iff.1 h;exact ⟨_,he.symm⟩
theorem rdW_keep {l:List Nat} (h:RdW w B A n l) {p:Addr} {v:Value} (hp:w.cell? p=some v) (hv:∀ k x,v≠.int k x) (u:Value):RdW (w.setCell p u) B A n l:=
 ⟨h.1,fun hn=>by
  obtain ⟨b,off,e,hlt,hc⟩:=h.2 hn;refine ⟨b,off,e,hlt,fun j y hy=>?_⟩;have hcv:=hc j y hy;have hne:(⟨b,off+j,none⟩:Addr)≠p:=by
   intro he;rw [he,hp] at hcv;obtain ⟨x,rfl⟩:=u32_int hy;injection hcv with hcv;exact hv _ _ hcv
  rw [World.cell?_setCell_other _ _ _ _ (Ne.symm hne)];exact hcv⟩
theorem LgIs.keep (h:LgIs w w.heap.size z b A n c) {p:Addr} {v:Value} (hp:w.cell? p=some v) (hv:∀ k x,v≠.int k x) (u:Value):LgIs (w.setCell p u) (w.setCell p u).heap.size z b A n c:=by
 have hs:(w.setCell p u).heap.size=w.heap.size:=by simp
 rw [hs];exact ⟨h.eb,h.en,rdW_keep h.rd hp hv u,h.nc,h.cm⟩
end
def LgP (z:Int) (w:World) (e:Ending) (w':World):Prop:=Below w.heap.size w w'∧∃ b A n c,e=.returned (.agg #[.bool b,.slice A n c])∧LgIs w' w'.heap.size z b A n c
theorem lgP_mk {m:Bool} {A:Option Addr} {k c v:Nat} {l:List Nat} {w w':World} {e:Ending} (hb:Below w.heap.size w w') (hl:l=dig v) (hk:l.length=k) (hr:RdW w' w'.heap.size A k l) (hkc:k≤c) (hcm:c≤9223372036854775807) (he:e=.returned (.agg #[.bool (m && decide (0<k)),.slice A k c])):LgP (sgn m v) w e w':=by
 have hk2:k=dlen v:=by rw [←hk,hl];rfl
 have h0:decide (0<k)=decide (0<v):=by
  by_cases hv:v=0
  ·subst hv;rw [hk2,dlen_zero]
  ·rw [hk2,dlen_pos hv];simp;omega
 refine ⟨hb,_,A,k,c,he,?_,?_,?_,hkc,hcm⟩
 ·rw [sgn_neg,h0]
 ·rw [sgn_abs];exact hk2
 ·rw [sgn_abs,←hl];exact hr
theorem lg_put {w w2:World} {g T:Nat} {v0 v1:Value} {z:Int} {b:Bool} {A:Option Addr} {n c:Nat} {e:Ending} (hb:Below w.heap.size w w2) (hg:w.heap.size≤g) (hB:Blk w2 g T #[v0,v1]) (h0:∀ k x,v0≠.int k x) (h1:∀ k x,v1≠.int k x) (h:LgIs w2 w2.heap.size z b A n c) (he:e=.returned (.agg #[.bool b,.slice A n c])) :
    LgP z w e ((w2.setCell ⟨g,0,none⟩ (.bool b)).setCell ⟨g,1,none⟩ (.slice A n c)):=
 ⟨below_set2 hb hg,b,A,n,c,he,(h.keep (hB.cell 0) h0 _).keep ((hB.set_ 0 (.bool b)).cell 1) (by simpa using h1) _⟩
theorem RdW.bm {w w':World} {n:Nat} {A:Option Addr} {l:List Nat} (h:RdW w w.heap.size A n l) (g:Below w.heap.size w w'):RdW w' w'.heap.size A n l:=(h.below g lR).more g.size
end
end Go.Proofs.YthgdchffeigkbaaGreatDoor

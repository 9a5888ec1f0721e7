import Derived.Test.YthgdchffeigkbaaGreatDoorU24
set_option linter.unusedVariables false
set_option linter.unusedSimpArgs false
namespace Go.Proofs.YthgdchffeigkbaaGreatDoor
set_option maxHeartbeats 8000000
set_option maxRecDepth 100000
section
open Go.ChangeShapes Go.WideShapes Go.ChangeAt Go.RowKit Go.Maps
def SeenI (w:World) (b n:Nat) (l:List Nat):Prop:=
 ∃ D:DataW Unit,w.ownsMap Tryz.prog 3 (plainElem Tryz.prog 4) b n D∧IsMap D∧∀ s:Nat,D.atKey (.int .i64 (s:Int)) (.lit (.bool false))=.lit (.bool (l.any fun x=>x == s))
theorem SeenI.lt {w:World} {b n:Nat} {l:List Nat} (h:SeenI w b n l):b<w.heap.size:=by obtain ⟨D,h1,_⟩:=h;exact h1.lt
theorem SeenI.kept {w w':World} {row:Option Nat} {b n:Nat} {l:List Nat} (h:SeenI w b n l) (hg:w.grownBy w' row) (hne:some b≠row):SeenI w' b n l:=by
 obtain ⟨D,h1,h2⟩:=h;exact ⟨D,h1.kept hg hne,h2⟩
theorem SeenI.below {w w':World} {b n:Nat} {l:List Nat} (h:SeenI w b n l) (hb:Below w.heap.size w w'):SeenI w' b n l:=h.kept (row:=none) ⟨hb.os,hb.tape,hb.output,hb.size,fun k hk _=>hb.block k hk⟩ (by simp)
theorem SeenI.made (w:World):SeenI (w.alloc (.map #[] 0)) w.heap.size 0 []:=⟨.map [],World.ownsMap_made _ _ _ _,⟨[],rfl⟩,fun s=>rfl⟩
theorem law_int:Keyed Tryz.prog 3:=int_keyed Tryz.underlying3
theorem SeenI.put {w:World} {b n:Nat} {l:List Nat} {D:DataW Unit} (s:Nat) (h1:w.ownsMap Tryz.prog 3 (plainElem Tryz.prog 4) b (n+1) (D.put (.int .i64 (s:Int)) (.lit (.bool true)))) (h2:IsMap D)
    (h3:∀ s:Nat,D.atKey (.int .i64 (s:Int)) (.lit (.bool false))=.lit (.bool (l.any fun x=>x == s))):SeenI w b (n+1) (l++[s]):=by
 refine ⟨_,h1,?_,fun t=>?_⟩
 ·obtain ⟨es,rfl⟩:=h2
  exact ⟨_,rfl⟩
 ·by_cases hts:t=s
  ·subst hts
   rw [atKey_put_same h2 (k:=.int .i64 (t:Int)) trivial];simp
  ·rw [atKey_put_other (fun e=>hts (by injection e with _ e;omega)),h3,List.any_append]
   have:(s == t)=false:=by simp;omega
   simp [this]
theorem seen_free {l:List Nat} {k:Nat} (hk:k<l.length):((l.take k).any fun x=>x == l.getD k 0)=freeB l k:=by
 unfold freeB newS sameIs;rw [Bool.not_not,Bool.eq_iff_iff,List.any_eq_true,List.any_eq_true]
 constructor
 ·rintro ⟨y,hy,he⟩
  obtain ⟨i,hi⟩:=List.mem_iff_getElem?.1 hy;have hik:i<k:=by have:=(zB_.1 hi).1;rw [zF_] at this;omega
  rw [List.getElem?_take_of_lt hik] at hi;refine ⟨i,List.mem_range.2 hik,?_⟩;rw [zD_,hi];exact he
 ·rintro ⟨a,ha,he⟩
  have hak:=List.mem_range.1 ha;obtain ⟨y,hy⟩:∃ y,l[a]?=some y:=zX_ (by omega);refine ⟨y,zC_ (i:=a) (by rw [List.getElem?_take_of_lt hak];exact hy),?_⟩;rw [zD_,hy] at he;exact he
theorem pick_succ (p:Nat→Bool) (n:Nat):pick p (n+1)=pick p n++if p n then [n] else []:=by
 unfold pick;rw [List.range_succ,List.filter_append];cases h:p n<;>simp [h]
theorem natJ_isl {x:Net} (ok:NetOk x):natJ (islN x)=islR x∧(islN x).length=busN x:=by
 have h:=parts_ok (brE_ok ok).1;refine ⟨?_,by unfold islN;rw [zG_];exact h.1⟩;unfold natJ islN;rw [List.map_map];have:∀ l:List Int,(∀ z∈l,0≤z)→l.map ((fun (v:Nat)=>(v:Int)) ∘ Int.toNat)=l:=fun l=>by
  induction l with
  | nil=>intro _;rfl
  | cons a r ih=>
   intro hl;rw [List.map_cons,ih fun z hz=>hl z (List.mem_cons_of_mem _ hz)];have:=hl a (List.mem_cons_self ..);simp [Int.toNat_of_nonneg this]
 exact this _ fun z hz=>(h.2 z hz).1
section
variable {P:Program}
theorem wpList_app_blk2 {S:Value→Prop} {ops:Array Oper} {rest:List Oper} {o:Oper} {a:Act} {Q:Exit→Act→World→Prop} {w:World} (hgd:o.guard=none) (s x:Operand) (t:TypeId)
    (ho:o.op=.call { callee:=.builtin .append,args:=#[s,x],argTypes:=#[t,t] })
    (base:Nat) (e:TypeId) (i:TypeInfo) (z:Value) (size bytes:Nat) (ht:P.underlying t=some (.slice e)) (hi:P.info? e=some i) (hz:i.zero=some z)
    (hsize:i.size=size) (hby:i.bytes=bytes) (hzs:z.cells.size=size) (hsz:0<size) (hzS:∀ u∈z.cells.toList,S u)
    (v:Value) (n:Nat) (xs:List Value) (hs:a.eval s=v) (hown:OwnS S w base e size v n xs)
    (g T:Nat) (lit:Array Value) (hx:a.eval x=.slice (some ⟨g,0,none⟩) 1 1) (hg:Blk w g T lit) (hl:lit.size=size) (h1:∀ u∈lit.toList,u.oneCell'=true∧S u)
    (h63:n+1≤maxLen) (hbytes:(n+1)*bytes≤140737488355328) (hbase:base≤w.heap.size)
    (h:∀ A m c w',OwnS S w' base e size (.slice A m c) (n+1) (xs++lit.toList)→Keeps S base e w w'→((Value.slice A m c).ownBlock=v.ownBlock∨(Value.slice A m c).ownBlock=some w.heap.size)→(∀ k,k<w.heap.size→v.ownBlock≠some k→w'.heap[k]?=w.heap[k]?)→wpList P ops Q rest (a.put o.dst (.slice A m c)) w') :
    wpList P ops Q (o::rest) a w:=by
 refine wpList_plain hgd fun K hK=>?_;exact wp_app_blk2 s x t ho base e i z size bytes ht hi hz hsize hby hzs hsz hzS v n xs hs hown g T lit hx hg hl h1 h63 hbytes hbase fun A m c w' q1 q2 q3 q4=>hK _ _ (h A m c w' q1 q2 q3 q4)
end
structure MdZ (g:Nat) (w0 wr:World) (b0 b1 vF vT vB vC vZ:Value) (F T:List Nat) (uB uC:List Rv) (B C:List Rat) (Z:List Nat):Prop where
 blk:Blk wr g 122 #[b0,b1,vF,vT,vB,vC,vZ,.slice none 0 0]
 oF:OwnS IsI wr (g+1) 3 1 vF F.length (natI F)
 oT:OwnS IsI wr (g+1) 3 1 vT T.length (natI T)
 oB:OwnQ wr (g+1) vB uB B
 oC:OwnQ wr (g+1) vC uC C
 oZ:OwnS IsI wr (g+1) 3 1 vZ Z.length (natI Z)
 zF:∀ k,vF.ownBlock=some k→vZ.ownBlock≠some k
 zT:∀ k,vT.ownBlock=some k→vZ.ownBlock≠some k
 low:Below g w0 wr
section
variable {g:Nat} {w0 wr w':World} {b0 b1 vF vT vB vC vZ v':Value} {F T Z:List Nat} {uB uC:List Rv} {B C:List Rat}
theorem MdS.z (m:MdS g w0 wr b0 b1 vF vT vB vC F T uB uC B C):MdZ g w0 wr b0 b1 vF vT vB vC (.slice none 0 0) F T uB uC B C []:=
 ⟨m.blk,m.oF,m.oT,m.oB,m.oC,ownS_none _ _ _ _ _,fun k _ h=>(by cases h),fun k _ h=>(by cases h),m.low⟩
theorem MdZ.up (m:MdZ g w0 wr b0 b1 vF vT vB vC vZ F T uB uC B C Z) (hb:Below wr.heap.size wr w'):MdZ g w0 w' b0 b1 vF vT vB vC vZ F T uB uC B C Z:=
 ⟨m.blk.bl hb,m.oF.keep hb,m.oT.keep hb,m.oB.keep hb,m.oC.keep hb,m.oZ.keep hb,m.zF,m.zT,m.low.trans (hb.mono (zQ_ m.blk.lt))⟩
theorem MdZ.app (m:MdZ g w0 wr b0 b1 vF vT vB vC vZ F T uB uC B C Z) {u:Nat} (h1:OwnS IsI w' (g+1) 3 1 v' (Z.length+1) (natI Z++[.int .i64 (u:Int)])) (h2:Keeps IsI (g+1) 3 wr w') (h3:v'.ownBlock=vZ.ownBlock∨v'.ownBlock=some wr.heap.size) (h4:∀ k,k<wr.heap.size→vZ.ownBlock≠some k→w'.heap[k]?=wr.heap[k]?) :
    MdZ g w0 (w'.setCell ⟨g,6,none⟩ v') b0 b1 vF vT vB vC v' F T uB uC B C (Z++[u]):=by
 have hb:=h2.blk _ _ _ m.blk (by decide);have hF:=m.oF.apart h4 m.zF;have hT:=m.oT.apart h4 m.zT;have hB:=m.oB.keepsI h2;have hC:=m.oC.keepsI h2;have hlen:Z.length+1=(Z++[u]).length:=by simp
 have hnat:natI Z++[.int .i64 (u:Int)]=natI (Z++[u]):=by unfold natI;rw [List.map_append];rfl
 rw [hlen,hnat] at h1;have hzF:∀ k,vF.ownBlock=some k→v'.ownBlock≠some k:=fun k hk hc=>ap_new (v:=vZ) (fun k h1 h2=>m.zF k h2 h1) m.oF h3 k hc hk;have hzT:∀ k,vT.ownBlock=some k→v'.ownBlock≠some k:=fun k hk hc=>ap_new (v:=vZ) (fun k h1 h2=>m.zT k h2 h1) m.oT h3 k hc hk;exact ⟨by have:=hb.set_ 6 v';simpa using this,hF.far hb (by decide),hT.far hb (by decide),hB.far hb (by decide) (y:=vZ) rfl m.oZ.ni,hC.far hb (by decide) (y:=vZ) rfl m.oZ.ni,h1.far hb (by decide),hzF,hzT,(m.low.trans (h2.low.mono (Nat.le_succ g))).setCell lR _⟩
theorem OwnS.mapped {S:Value→Prop} {w w':World} {base e size n b m:Nat} {v:Value} {xs:List Value} {l:List Nat} (h:OwnS S w base e size v n xs) (hs:SeenI w b m l) (hg:w.grownBy w' (some b)):OwnS S w' base e size v n xs:=by
 refine ⟨h.1,?_⟩;rcases h.2 with h1 | ⟨g,cap,cur,h1,h2,h3,h4⟩
 ·exact .inl h1
 ·refine .inr ⟨g,cap,cur,h1,h2,h3.grown hg (fun e=>?_),h4⟩
  injection e with e;subst e;obtain ⟨D,⟨es,clock,hb,_⟩,_⟩:=hs;have h5:some (Obj.cells cur _ (0,0))=some (Obj.map es clock):=h3.symm.trans hb;cases h5
theorem SeenI.apart {S:Value→Prop} {w:World} {b n base e size m:Nat} {l:List Nat} {v:Value} {xs:List Value} (hs:SeenI w b n l) (h:OwnS S w base e size v m xs):some b≠v.ownBlock:=by
 intro hb;rcases h.2 with ⟨h1,_⟩ | ⟨g,cap,cur,h1,h2,h3,h4⟩
 ·rw [h1] at hb;cases hb
 ·rw [h1] at hb
  injection hb with hb;subst hb;obtain ⟨D,⟨es,clock,hq,_⟩,_⟩:=hs;have h5:some (Obj.cells cur _ (0,0))=some (Obj.map es clock):=h3.symm.trans hq;cases h5
theorem rdI_blk {w:World} {g t n:Nat} {zs:List Int} (h:Blk w g t (ints zs).toArray) (hn:zs.length=n):RdI w w.heap.size (some ⟨g,0,none⟩) n zs:=
 ⟨by unfold ints;rw [zG_,Nat.mul_one];exact hn,fun _=>⟨g,0,rfl,h.lt,fun j u hu=>by rw [Nat.zero_add,h.cell j];simpa using hu⟩⟩
theorem Blk.mapped {w w':World} {g t b m:Nat} {cs:Array Value} {l:List Nat} (h:Blk w g t cs) (hs:SeenI w b m l) (hg:w.grownBy w' (some b)):Blk w' g t cs:=by
 refine h.grown hg (fun e=>?_);injection e with e;subst e;obtain ⟨D,⟨es,clock,hb,_⟩,_⟩:=hs;have h5:some (Obj.cells cs t (0,0))=some (Obj.map es clock):=h.symm.trans hb;cases h5
theorem RtV.mappedI {w w':World} {b m:Nat} {l:List Nat} {q:Rat} {x:Rv} (h:RtV w w.heap.size q x) (hs:SeenI w b m l) (hg:w.grownBy w' (some b)):RtV w' w'.heap.size q x:=by
 have key:∀ {A:Option Addr} {n:Nat} {l:List Nat},RdW w w.heap.size A n l→RdW w' w'.heap.size A n l:=fun {A n l'} h=>⟨h.1,fun hn=>by
  obtain ⟨b',off,e,hlt,hc⟩:=h.2 hn;have hne:b'≠b:=by
   rintro rfl;have hx:0<(u32s l').length:=by have:=h.1;omega
   have h0:=hc 0 _ (zA_ hx);obtain ⟨D,⟨es,clock,hb,_⟩,_⟩:=hs;unfold World.cell? at h0;rw [hb] at h0;cases h0
  exact ⟨b',off,e,zJ_ hlt hg.size,fun j u hu=>(World.cell?_of_block (a:=⟨b',off+j,none⟩) (hg.block b' hlt (fun e=>by injection e;omega))).trans (hc j u hu)⟩⟩
 exact ⟨⟨h.num.eb,h.num.en,key h.num.rd,h.num.nc,h.num.cm⟩,⟨h.den.eb,h.den.en,key h.den.rd,h.den.nc,h.den.cm⟩⟩
theorem MdZ.mapped {b n:Nat} {l:List Nat} (m:MdZ g w0 wr b0 b1 vF vT vB vC vZ F T uB uC B C Z) (hs:SeenI wr b n l) (hg:wr.grownBy w' (some b)) (hb:g<b) (h0:g≤w0.heap.size):MdZ g w0 w' b0 b1 vF vT vB vC vZ F T uB uC B C Z:=
 ⟨m.blk.mapped hs hg,m.oF.mapped hs hg,m.oT.mapped hs hg,⟨m.oB.own.mapped hs hg,m.oB.len,fun i q x hq hx=>(m.oB.ok i q x hq hx).mappedI hs hg⟩,⟨m.oC.own.mapped hs hg,m.oC.len,fun i q x hq hx=>(m.oC.ok i q x hq hx).mappedI hs hg⟩,m.oZ.mapped hs hg,m.zF,m.zT,below_only m.low hg (zQ_ hb) h0⟩
theorem rdI_ownS {w:World} {base:Nat} {v:Value} {l:List Nat} (h:OwnS IsI w base 3 1 v l.length (natI l)):∃ A c,v=.slice A l.length c∧RdI w w.heap.size A l.length (natJ l):=by
 obtain ⟨A,c,hv,hr,_⟩:=own_rd h.own;refine ⟨A,c,hv,?_⟩;have:ints (natJ l)=natI l:=by unfold ints natJ natI;rw [List.map_map];rfl
 unfold RdI;rw [this];exact hr
end
end
section
open Go.ChangeShapes Go.WideShapes Go.ChangeAt Go.RowKit Go.Maps
attribute [local go_sem ↓] execOp_call_val
attribute [local go_sem] callVal_func setCell_drewN alloc_drewN sEq_walk NetH.cells
def OfP (x:Net) (w:World) (e:Ending) (w':World):Prop:=Below w.heap.size w w'∧∃ (g:Nat) (m:ModH) (A:Option Addr) (n c:Nat),e=.returned (.pointer (some ⟨g,0,none⟩))∧w.heap.size≤g∧Blk w' g 122 (m.cells (.slice A n c))∧RdMod w' w'.heap.size m x∧(mReg x→n=(freeL x).length∧RdM w' w'.heap.size A n (mInv x))
theorem take_at {α:Type} {l:List α} {k:Nat} {x:α} (h:l[k]?=some x):l.take (k+1)=l.take k++[x]:=take_snoc h
theorem mFrom_at {x:Net} {k:Nat} {b:Br} (h:x.brs[k]?=some b):(mFrom x)[k]?=some (busAt x b.fr)∧(mTo x)[k]?=some (busAt x b.to)∧(mB x)[k]?=some (susR b)∧(mC x)[k]?=some (conR b):=by
 unfold mFrom mTo mB mC brE;simp [h]
theorem br_bnd {b:Br} (h:b.bad=false):1≤b.x∧b.x≤10000∧500≤b.tap∧b.tap≤1500∧-1000≤b.shift∧b.shift≤1000:=by
 unfold Br.bad at h;simp only [Bool.or_eq_false_iff] at h;obtain ⟨⟨⟨⟨⟨a1,a2⟩,a3⟩,_⟩,_⟩,_⟩:=h;unfold outB at a1 a2 a3;have:=of_decide_eq_false a1;have:=of_decide_eq_false a2;have:=of_decide_eq_false a3;omega
theorem shift_qsz {b:Br} (h:b.bad=false):qsz (Rat.divInt (-b.shift) 1000)≤1:=by
 have h1:=br_bnd h;unfold qsz;rw [show (1000:Int)=((1000:Nat):Int) from rfl,(ratio_num (-b.shift) (by decide)).2,(ratio_abs (-b.shift) (by decide)).1];refine Nat.max_le.2 ⟨dlen_le ?_,dlen_le ?_⟩
 ·refine zT_ (Nat.div_le_self ..) ?_
  show _<4294967296^1;omega
 ·refine zT_ (Nat.div_le_self ..) ?_
  show _<4294967296^1;decide
theorem flowOf_any (h:NetH) (x:Net) (ok:NetOk x) (h8:x.nodes.length≤8) (w:World) (r:RdNet w w.heap.size h x):Calls Tryz.prog 55 #[.agg h.cells] w (OfP x w):=by
 have K0:Below w.heap.size w (w.alloc (.cells h.cells 29)):=bA;have HK:=lH K0;have HX:=lH (Blk.new w 29 h.cells);have HRN:=lH r;have HOK:=lH ok;have H8:=lH h8;have HGT:=lH (get_any h x ok _ (r.up K0));have HL2:Hid (x.brs.length=h.n2):=lH r.r2.1;have HL0:Hid (x.nodes.length=h.n0):=lH r.r0.1;have hm2:h.n2≤24:=by rw [←HL2.o];exact ok.l2
 have hm0:h.n0≤24:=by rw [←HL0.o];exact ok.l0
 obtain ⟨i0,hi0,hz0,hz1,hz2⟩:=info_parts info_intH;have HI0:=lH hi0;have HI1:=lH hz0;have HI2:=lH hz1;have HI3:=lH hz2;obtain ⟨i1,ri0,rz0,rz1,rz2⟩:=rat_parts;have RI0:=lH ri0;have RI1:=lH rz0;have RI2:=lH rz1;have RI3:=lH rz2;clear K0 r ok h8 hi0 hz0 hz1 hz2 ri0 rz0 rz1 rz2;obtain ⟨A0,m0,c0,A1,m1,c1,A2,m2,c2,A3,m3,c3,A4,m4,c4,A5,m5,c5⟩:=h;simp only [NetH.cells] at HK HX HGT HL2 HL0 hm2 hm0 ⊢;go_enter Tryz.func55,Tryz.ntmps55
 go_upto_region 1 with fail
 generalize w.alloc (.cells #[.slice A0 m0 c0,.slice A1 m1 c1,.slice A2 m2 c2,.slice A3 m3 c3,.slice A4 m4 c4,.slice A5 m5 c5] 29)=W at *;have hgl:=HX.o.lt;have y0:=HX.o.cell 0;have y1:=HX.o.cell 1;have y2:=HX.o.cell 2;have y3:=HX.o.cell 3;have y4:=HX.o.cell 4;have y5:=HX.o.cell 5
 go_wp2_with fail
 refine HGT.o.mono ?_;clear y0 y1 y2 y3 y4 y5 hgl HGT;rintro e w1 ⟨hb1,g1,g2,rfl,hg1,hg2,hbk1,hbk2⟩;have HB1:=lH (HK.o.tm hb1);have HX1:=lH (HX.o.bl hb1);have HK1:=lH hbk1;have HK2:=lH hbk2;have HGG:Hid (W.heap.size≤g1∧W.heap.size≤g2∧w.heap.size<W.heap.size):=lH ⟨hg1,hg2,HX.o.lt⟩;clear hb1 HK HX hbk1 hbk2 hg1 hg2
 go_upto_region 2 with fail
 have HM0:=lH (mdS_start (w:=w1) (.slice (some ⟨g1,0,none⟩) m0 m0) (.slice (some ⟨g2,0,none⟩) (busN x) (busN x)));have HBW:=lH ((Below.refl w1.heap.size w1).alloc lR (.cells #[.slice (some ⟨g1,0,none⟩) m0 m0,.slice (some ⟨g2,0,none⟩) (busN x) (busN x),.slice none 0 0,.slice none 0 0,.slice none 0 0,.slice none 0 0,.slice none 0 0,.slice none 0 0] 122));have HX2:=lH (HX1.o.bl HBW.o);generalize w1.alloc (.cells #[.slice (some ⟨g1,0,none⟩) m0 m0,.slice (some ⟨g2,0,none⟩) (busN x) (busN x),.slice none 0 0,.slice none 0 0,.slice none 0 0,.slice none 0 0,.slice none 0 0,.slice none 0 0] 122)=w2 at *;generalize hgq:w1.heap.size=g at *;have HG:=lH hgq;clear hgq;have HGW:Hid (w.heap.size<g∧w.heap.size≤g):=lH (by have:=HGG.o.2.2;have:=HX1.o.lt;have:=HG.o;omega);have y2:=HX2.o.cell 2;have yl:=HX2.o.lt
 go_wp2_with fail
 clear y2 yl HBW HX2
 go_loopw [17] (fun v17 wr=>∃ (k:Nat) (vF vT vB vC:Value) (uB uC:List Rv),k≤m2∧v17=.int .i64 k∧MdS g w1 wr (.slice (some ⟨g1,0,none⟩) m0 m0) (.slice (some ⟨g2,0,none⟩) (busN x) (busN x)) vF vT vB vC ((mFrom x).take k) ((mTo x).take k) uB uC ((mB x).take k) ((mC x).take k)) (fun v17 _=>m2-(intOf v17).toNat)
 case atStart=>exact ⟨0,_,_,_,_,_,_,by omega,rfl,HM0.o⟩
 case round=>
  clear HM0;obtain ⟨k,vF,vT,vB,vC,uB,uC,hk,rfl,hm⟩:=hrel;have HM:=lH hm;have HW:Hid (Below w.heap.size w wr):=lH (HB1.o.trans (hm.low.mono HGW.o.2));have HRW:=lH (HRN.o.up HW.o);have HXR:=lH (HX1.o.below hm.low (by have:=HGW.o.1;omega));clear hm
  by_cases hlt:k<m2
  ·obtain ⟨s,hs⟩:∃ s,x.brs[k]?=some s:=zX_ (by have:=HL2.o;omega)
   obtain ⟨b,off,hA,hb⟩:=HRW.o.r2.form (show 0<m2 by omega);simp only at hA;subst hA;obtain ⟨a0,a1,a2,a3,a4,a5,a6,a7,a8⟩:=HRW.o.r2.at_ hs;obtain ⟨t1,t2,t3,t4⟩:=mFrom_at hs;have HT1:=lH (take_at t1);have HT2:=lH (take_at t2);have HT3:=lH (take_at t3);have HT4:=lH (take_at t4);have HBR:=lH (HOK.o.br s (zC_ hs));have hkI:(k:Int)<(m2:Int):=by omega
   have HN1:=lN k;have HN2:Hid (m2-(k+1)<m2-k):=lH (by omega);have HFL:Hid (((mFrom x).take k).length≤24∧((mTo x).take k).length≤24∧((mB x).take k).length≤24∧((mC x).take k).length≤24):=lH (by simp only [zF_];omega);clear hs t1 t2 t3 t4
   go_upto_region 5 with fail
   clear a0 a1 a2 a3 a4 a5 a6 a7 a8 hb;generalize hwa:wr.alloc (.cells #[.string s.name,.string s.fr,.string s.to,.int .i64 s.x,.int .i64 s.tap,.int .i64 s.shift,.int .i64 s.limit,.int .i64 s.short,.int .i64 s.hold] 54)=wa;have hba:Below wr.heap.size wr wa:=by rw [←hwa];exact bA
   have HS:Hid (Blk wa wr.heap.size 54 #[.string s.name,.string s.fr,.string s.to,.int .i64 s.x,.int .i64 s.tap,.int .i64 s.shift,.int .i64 s.limit,.int .i64 s.short,.int .i64 s.hold]):=lH (by rw [←hwa];exact Blk.new wr _ _);have HGX:Hid (g<wr.heap.size):=lH HM.o.blk.lt;replace HM:=lH (HM.o.up hba);clear hwa hba HRW HXR HW;generalize wr.heap.size=gx at *;have HW:Hid (Below w.heap.size w wa):=lH (HB1.o.trans (HM.o.low.mono HGW.o.2));have HXR:=lH (HX1.o.below HM.o.low (by have:=HGW.o.1;omega));have HRW:=lH ((HRN.o.up HW.o).r0);have hbo:=busAt_ok HOK.o HBR.o.1;have hbc:=set_get (HK1.o.below HM.o.low (by have:=HK1.o.lt;have:=HG.o;omega)) hbo.2.2;rw [hbo.1] at hbc;have HIX:Hid (ndIdx x.nodes s.fr<m0):=lH (by have:=hbo.2.2;rw [(busR_ok HOK.o).1] at this;have:=HL0.o;omega);have HND:=lH (nodeIx HBR.o.1);generalize ndIdx x.nodes s.fr=ix at *;clear hbo;have hix:=HIX.o
   have hixI:(ix:Int)<(m0:Int):=by omega
   have hix0:=lZ ix
   have hixn:=zL_ ix;have z0:=HM.o.blk.cell 0;have z2:=HM.o.blk.cell 2;have zl:=HM.o.blk.lt;have x0:=HXR.o.cell 0;have xl:=HXR.o.lt;have s1:=HS.o.cell 1;have sl:=HS.o.lt;have gl1:g1<wa.heap.size:=by have:=HK1.o.lt;have:=HG.o;omega
   have HB4:=lH (below_drew (Below.refl wa.heap.size wa));refine wp_region_last4X (S:=fun w'=>Below wa.heap.size wa w') 17 0 _ _ _ _ _ (.pointer (some ⟨g,0,none⟩)) (by kernel_rfl) (by kernel_rfl) (by kernel_rfl) (by kernel_rfl) (by kernel_rfl) rfl (by decide) (by kernel_rfl) rfl rfl rfl rfl (by kernel_rfl) (fun _ _ _ h=>h) (by rfl) (fun w'=>by go_simp<;>with_reducible rfl) (below_drew bR) (fun hHeld=>?_);simp only [zK_,List.take_zero]
   try simp only [Act.put,sA_,sB_,sC_]
   refine tkH 1 rfl ?_;refine tkH 2 rfl ?_;refine tkH 3 rfl ?_;refine tkH 4 rfl ?_;refine tkH 5 rfl ?_;refine tkH 6 rfl ?_;refine tkH 7 rfl ?_;refine tkH 8 rfl ?_;refine tkH 9 rfl ?_;refine tkH 10 rfl ?_;refine tkH 11 rfl ?_;refine tkH 12 rfl ?_;refine tkH 13 rfl ?_;refine stepH 14 (by kernel_rfl) rfl (fun K hK=>?_);go_simp;refine (index_str A0 m0 c0 x.nodes s.fr wa.drew (HRW.o.bm HB4.o) (by omega)).mono ?_;rintro e w8 ⟨rfl,rfl⟩;rw [HND.o];go_simp;refine hK.out _ _ ?_ (fun hHeld=>?_)
   ·exact HB4.o
   clear hK K
   try simp only [Act.put,sA_,sB_,sC_]
   refine tkH 15 rfl ?_;refine tkH 16 rfl ?_;refine stepH 17 (by kernel_rfl) rfl (fun K hK=>?_);go_simp;refine hK.out _ _ ?_ (fun hHeld=>?_)
   ·exact HB4.o.alloc lR _
   clear hK K
   try simp only [Act.put,sA_,sB_,sC_]
   refine wpAnyH_done (by kernel_rfl) ?_ _;refine lastQ_go (by rfl) ?_;clear hHeld;generalize hbu:busAt x s.fr=bu at *;have hbl:Below wa.heap.size wa (wa.alloc (.cells #[.int .i64 (bu:Int)] 3)).drew:=below_drew (bA);have HLT:Hid (Blk (wa.alloc (.cells #[.int .i64 (bu:Int)] 3)).drew wa.heap.size 3 #[.int .i64 (bu:Int)]):=lH (Blk.new wa _ _).drew;replace HM:=lH (HM.o.up hbl);replace HS:=lH (HS.o.bl hbl);have HBU:=lH hbu;clear z0 z2 zl x0 xl s1 sl gl1 hbc hix hixI hix0 hixn HIX HND HRW HXR HW HB4 hbl hbu;generalize (wa.alloc (.cells #[.int .i64 (bu:Int)] 3)).drew=wl at *;generalize wa.heap.size=gq at *;refine wp_app_blk2 (S:=IsI) (.tmp 25) (.tmp 38) 30 rfl (g+1) 3 i0 _ 1 8 Tryz.underlying30 HI0.o HI1.o HI2.o HI3.o rfl (by omega) zi_I vF _ _ (by rfl) HM.o.oF gq 3 #[.int .i64 (bu:Int)] (by rfl) HLT.o rfl ?k1 ?k2 ?k3 ?k4 ?_
   case k1=>intro u hu;rw [show u=.int .i64 (bu:Int) from by simpa using hu];exact ⟨rfl,_,rfl⟩
   case k2=>have:=HFL.o.1;simp only [maxLen];omega
   case k3=>have:=HFL.o.1;omega
   case k4=>exact HM.o.blk.lt
   intro pA pn pc w9 q1 q2 q3 q4;have hm9:=HM.o.appF q1 q2 q3 q4;have hb9:=q2.blk _ _ _ HM.o.blk (by decide);have hs9:=q2.blk _ _ _ HS.o (by decide);have HMN:=lH hm9;have HS9:=lH (hs9.far (p:=⟨g,2,none⟩) (by have:=HGX.o;show gx≠g;omega) (.slice pA pn pc));have p2:=hb9.cell 2;have pl:=hb9.lt;have pf:=hb9.frozen;clear q1 q2 q3 q4 hm9 hb9 hs9 HM HS HLT;refine lastQ_go (by rfl) ?_;go_simp;refine lastQ_go (by rfl) ?_;go_simp;refine lastQ_go (by rfl) ?_
   go_upto_region 6 with fail
   clear p2 pl pf;generalize w9.setCell ⟨g,2,none⟩ (.slice pA pn pc)=wb at *;have HM:Hid (MdS g w1 wb _ _ _ _ _ _ _ _ _ _ _ _):=HMN;have HS:=HS9;rw [←HT1.o] at HM;clear HMN HS9 HBU;generalize Value.slice pA pn pc=vF2 at *;have HW:Hid (Below w.heap.size w wb):=lH (HB1.o.trans (HM.o.low.mono HGW.o.2));have HXR:=lH (HX1.o.below HM.o.low (by have:=HGW.o.1;omega));have HRW:=lH ((HRN.o.up HW.o).r0);have hbo:=busAt_ok HOK.o HBR.o.2.1;have hbc:=set_get (HK1.o.below HM.o.low (by have:=HK1.o.lt;have:=HG.o;omega)) hbo.2.2;rw [hbo.1] at hbc;have HIX:Hid (ndIdx x.nodes s.to<m0):=lH (by have:=hbo.2.2;rw [(busR_ok HOK.o).1] at this;have:=HL0.o;omega);have HND:=lH (nodeIx HBR.o.2.1);generalize ndIdx x.nodes s.to=ix at *;clear hbo;have hix:=HIX.o;have hixI:(ix:Int)<(m0:Int):=by omega
   have hix0:=lZ ix
   have hixn:=zL_ ix;have z0:=HM.o.blk.cell 0;have z2:=HM.o.blk.cell 3;have zl:=HM.o.blk.lt;have x0:=HXR.o.cell 0;have xl:=HXR.o.lt;have s1:=HS.o.cell 2;have sl:=HS.o.lt;have gl1:g1<wb.heap.size:=by have:=HK1.o.lt;have:=HG.o;omega
   have HB4:=lH (below_drew (Below.refl wb.heap.size wb));refine wp_region_last4X (S:=fun w'=>Below wb.heap.size wb w') 17 0 _ _ _ _ _ (.pointer (some ⟨g,0,none⟩)) (by kernel_rfl) (by kernel_rfl) (by kernel_rfl) (by kernel_rfl) (by kernel_rfl) rfl (by decide) (by kernel_rfl) rfl rfl rfl rfl (by kernel_rfl) (fun _ _ _ h=>h) (by rfl) (fun w'=>by go_simp<;>with_reducible rfl) (below_drew bR) (fun hHeld=>?_);simp only [zK_,List.take_zero]
   try simp only [Act.put,sA_,sB_,sC_]
   refine tkH 1 rfl ?_;refine tkH 2 rfl ?_;refine tkH 3 rfl ?_;refine tkH 4 rfl ?_;refine tkH 5 rfl ?_;refine tkH 6 rfl ?_;refine tkH 7 rfl ?_;refine tkH 8 rfl ?_;refine tkH 9 rfl ?_;refine tkH 10 rfl ?_;refine tkH 11 rfl ?_;refine tkH 12 rfl ?_;refine tkH 13 rfl ?_;refine stepH 14 (by kernel_rfl) rfl (fun K hK=>?_);go_simp;refine (index_str A0 m0 c0 x.nodes s.to wb.drew (HRW.o.bm HB4.o) (by omega)).mono ?_;rintro e w8 ⟨rfl,rfl⟩;rw [HND.o];go_simp;refine hK.out _ _ ?_ (fun hHeld=>?_)
   ·exact HB4.o
   clear hK K
   try simp only [Act.put,sA_,sB_,sC_]
   refine tkH 15 rfl ?_;refine tkH 16 rfl ?_;refine stepH 17 (by kernel_rfl) rfl (fun K hK=>?_);go_simp;refine hK.out _ _ ?_ (fun hHeld=>?_)
   ·exact HB4.o.alloc lR _
   clear hK K
   try simp only [Act.put,sA_,sB_,sC_]
   refine wpAnyH_done (by kernel_rfl) ?_ _;refine lastQ_go (by rfl) ?_;clear hHeld;generalize hbu:busAt x s.to=bu at *;have hbl:Below wb.heap.size wb (wb.alloc (.cells #[.int .i64 (bu:Int)] 3)).drew:=below_drew (bA);have HLT:Hid (Blk (wb.alloc (.cells #[.int .i64 (bu:Int)] 3)).drew wb.heap.size 3 #[.int .i64 (bu:Int)]):=lH (Blk.new wb _ _).drew;replace HM:=lH (HM.o.up hbl);replace HS:=lH (HS.o.bl hbl);have HBU:=lH hbu;clear z0 z2 zl x0 xl s1 sl gl1 hbc hix hixI hix0 hixn HIX HND HRW HXR HW HB4 hbl hbu;generalize (wb.alloc (.cells #[.int .i64 (bu:Int)] 3)).drew=wl at *;generalize wb.heap.size=gq at *;refine wp_app_blk2 (S:=IsI) (.tmp 46) (.tmp 59) 30 rfl (g+1) 3 i0 _ 1 8 Tryz.underlying30 HI0.o HI1.o HI2.o HI3.o rfl (by omega) zi_I vT _ _ (by rfl) HM.o.oT gq 3 #[.int .i64 (bu:Int)] (by rfl) HLT.o rfl ?k1 ?k2 ?k3 ?k4 ?_
   case k1=>intro u hu;rw [show u=.int .i64 (bu:Int) from by simpa using hu];exact ⟨rfl,_,rfl⟩
   case k2=>have:=HFL.o.2.1;simp only [maxLen];omega
   case k3=>have:=HFL.o.2.1;omega
   case k4=>exact HM.o.blk.lt
   intro pA pn pc w9 q1 q2 q3 q4;have hm9:=HM.o.appT q1 q2 q3 q4;have hb9:=q2.blk _ _ _ HM.o.blk (by decide);have hs9:=q2.blk _ _ _ HS.o (by decide);have HMN:=lH hm9;have HS9:=lH (hs9.far (p:=⟨g,3,none⟩) (by have:=HGX.o;show gx≠g;omega) (.slice pA pn pc));have p2:=hb9.cell 3;have pl:=hb9.lt;have pf:=hb9.frozen;clear q1 q2 q3 q4 hm9 hb9 hs9 HM HS HLT;refine lastQ_go (by rfl) ?_;go_simp;refine lastQ_go (by rfl) ?_;go_simp;refine lastQ_go (by rfl) ?_
   go_upto_region 7 with fail
   clear p2 pl pf;generalize w9.setCell ⟨g,3,none⟩ (.slice pA pn pc)=wc at *;have HM:Hid (MdS g w1 wc _ _ _ _ _ _ _ _ _ _ _ _):=HMN;have HS:=HS9;rw [←HT2.o] at HM;clear HMN HS9 HBU;generalize Value.slice pA pn pc=vT2 at *;have hbd:=br_bnd HBR.o.2.2.2;have hmul:s.x*s.tap≤10000*1500:=Int.mul_le_mul hbd.2.1 hbd.2.2.2.1 (by omega) (by omega);have hmul2:1*500≤s.x*s.tap:=Int.mul_le_mul hbd.1 hbd.2.2.1 (by omega) (by omega);have HXT:=lH (fracV 1000000 (s.x*s.tap) wc (by decide) (by decide) (by omega) (by omega) (by omega));have hw1:IntKind.i64.wrap (s.x*s.tap)=s.x*s.tap:=IntWalk.i64_in _ (by omega);have hsh:IntKind.i64.wrap (-s.shift)=-s.shift:=IntWalk.i64_in _ (by omega);have HSH:=lH hsh;have HSF:=lH (fun w'=>fracV (-s.shift) 1000 w' (by omega) (by omega) (by decide) (by decide) (by decide));have s3:=HS.o.cell 3;have s4:=HS.o.cell 4;have sl:=HS.o.lt;generalize hxt:s.x*s.tap=xt at *
   have HXE:=lH hxt
   go_wp2_with fail
   refine HXT.o.mono ?_;rintro e w10 ⟨hb10,v10,rfl,h10⟩;clear s3 s4 sl HXT hmul hmul2 hw1 hbd hsh hxt;have HV10:Hid (RtV w10 w10.heap.size (susR s) v10):=lH (by unfold susR;rw [HXE.o];exact h10);replace HM:=lH (HM.o.up hb10);replace HS:=lH (HS.o.bl hb10);clear hb10 h10
   go_upto_region 8 with fail
   have hb11:Below w10.heap.size w10 (w10.alloc (.cells #[.bool v10.b1,.slice v10.A v10.n v10.c,.bool v10.b2,.slice v10.A2 v10.m v10.d] 115)):=bA;have HBX:=lH (Blk.new w10 115 #[.bool v10.b1,.slice v10.A v10.n v10.c,.bool v10.b2,.slice v10.A2 v10.m v10.d]);have HNE:Hid (∀ k,vB.ownBlock=some k→k<w10.heap.size):=lH fun k hk=>(HM.o.oB.own.lt hk).2;have HGY:Hid (g<w10.heap.size):=lH HM.o.blk.lt;replace HM:=lH (HM.o.up hb11);replace HS:=lH (HS.o.bl hb11);replace HV10:=lH (HV10.o.up hb11);clear hb11 HXE;generalize w10.alloc (.cells #[.bool v10.b1,.slice v10.A v10.n v10.c,.bool v10.b2,.slice v10.A2 v10.m v10.d] 115)=wd at *;generalize w10.heap.size=gy at *;have z4:=HM.o.blk.cell 4;have zl:=HM.o.blk.lt;have b0:=HBX.o.cell 0;have b1:=HBX.o.cell 1;have b2:=HBX.o.cell 2;have b3:=HBX.o.cell 3;have bl:=HBX.o.lt
   have HB4:=lH (below_drew (Below.refl wd.heap.size wd));refine wp_region_last4X (S:=fun w'=>Below wd.heap.size wd w') 6 0 _ _ _ _ _ (.pointer (some ⟨g,0,none⟩)) (by kernel_rfl) (by kernel_rfl) (by kernel_rfl) (by kernel_rfl) (by kernel_rfl) rfl (by decide) (by kernel_rfl) rfl rfl rfl rfl (by kernel_rfl) (fun _ _ _ h=>h) (by rfl) (fun w'=>by go_simp<;>with_reducible rfl) (below_drew bR) (fun hHeld=>?_);simp only [zK_,List.take_zero]
   try simp only [Act.put,sA_,sB_,sC_]
   refine tkH 1 rfl ?_;refine tkH 2 rfl ?_;refine tkH 3 rfl ?_;refine tkH 4 rfl ?_;refine tkH 5 rfl ?_;refine stepH 6 (by kernel_rfl) rfl (fun K hK=>?_);go_simp;refine hK.out _ _ ?_ (fun hHeld=>?_)
   ·exact HB4.o.alloc HB4.o.size _
   clear hK K
   try simp only [Act.put,sA_,sB_,sC_]
   refine wpAnyH_done (by kernel_rfl) ?_ _;refine lastQ_go (by rfl) ?_;clear hHeld;have hbl:Below wd.heap.size wd ((wd.alloc (.cells #[.bool v10.b1,.slice v10.A v10.n v10.c,.bool v10.b2,.slice v10.A2 v10.m v10.d] 115)).drew):=below_drew (bA);have HLT:Hid (Blk ((wd.alloc (.cells #[.bool v10.b1,.slice v10.A v10.n v10.c,.bool v10.b2,.slice v10.A2 v10.m v10.d] 115)).drew) wd.heap.size 115 #[.bool v10.b1,.slice v10.A v10.n v10.c,.bool v10.b2,.slice v10.A2 v10.m v10.d]):=lH (Blk.new wd _ _).drew;replace HM:=lH (HM.o.up hbl);replace HS:=lH (HS.o.bl hbl);replace HBX:=lH (HBX.o.bl hbl);replace HV10:=lH (HV10.o.up hbl);have HVU:=HV10;clear z4 zl b0 b1 b2 b3 bl HB4 hbl;generalize (wd.alloc (.cells #[.bool v10.b1,.slice v10.A v10.n v10.c,.bool v10.b2,.slice v10.A2 v10.m v10.d] 115)).drew=wl at *;generalize wd.heap.size=gq at *
   refine wp_app_blk2 (S:=NoI) (.tmp 73) (.tmp 75) 93 rfl (g+1) 115 i1 _ 4 64 Tryz.underlying93 RI0.out RI1.out RI2.out RI3.out rfl (by omega) zr_noI vB _ _ (by rfl) HM.o.oB.own gq 115 #[.bool v10.b1,.slice v10.A v10.n v10.c,.bool v10.b2,.slice v10.A2 v10.m v10.d] (by rfl) HLT.o rfl ?k1 ?k2 ?k3 ?k4 ?_
   case k1=>exact rv_noI v10
   case k2=>have:=HM.o.oB.len;have:=HFL.o.2.2.1;simp only [maxLen];omega
   case k3=>have:=HM.o.oB.len;have:=HFL.o.2.2.1;omega
   case k4=>exact HM.o.blk.lt
   intro pA pn pc w9 q1 q2 q3 q4;have hm9:=HM.o.appB HVU.o q1 q2 q3 q4;have hb9:=q2.blk _ _ _ HM.o.blk (by decide);have hs9:=q2.blk _ _ _ HS.o (by decide);have HMN:=lH hm9;have HS9:=lH (hs9.far (p:=⟨g,4,none⟩) (by have:=HGX.o;show gx≠g;omega) (.slice pA pn pc));have hbx:Blk w9 gy 115 #[.bool v10.b1,.slice v10.A v10.n v10.c,.bool v10.b2,.slice v10.A2 v10.m v10.d]:=(q4 gy HBX.o.lt (fun hc=>absurd (HNE.o gy hc) (Nat.lt_irrefl _))).trans HBX.o;have HBX9:=lH (hbx.far (p:=⟨g,4,none⟩) (by have:=HGY.o;show gy≠g;omega) (.slice pA pn pc));have HV9:=lH ((RtV.keeps HV10.o q2).keep1 (i:=4) hb9 (y:=vB) rfl HM.o.oB.own.ni (.slice pA pn pc));have p2:=hb9.cell 4;have pl:=hb9.lt;have pf:=hb9.frozen;clear q1 q2 q3 q4 hm9 hb9 hs9 HM HS HLT HVU HBX HV10 hbx;refine lastQ_go (by rfl) ?_;go_simp;refine lastQ_go (by rfl) ?_;go_simp;refine lastQ_go (by rfl) ?_
   go_upto_region 9 with fail
   clear p2 pl pf;generalize w9.setCell ⟨g,4,none⟩ (.slice pA pn pc)=we at *;have HM:Hid (MdS g w1 we _ _ _ _ _ _ _ _ _ _ _ _):=HMN;have HS:=HS9;have HBX:=HBX9;have HV10:=HV9;rw [←HT3.o] at HM;clear HMN HS9 HBX9 HV9;generalize Value.slice pA pn pc=vB2 at *;have HQM:Hid (qsz (susR s)+qsz (Rat.divInt (-s.shift) 1000)+1≤35184372088832):=lH (by have:=sus_qsz HBR.o.2.2.2;have:=shift_qsz HBR.o.2.2.2;omega);have z4:=HM.o.blk.cell 5;have zl:=HM.o.blk.lt;have b0:=HBX.o.cell 0;have b1:=HBX.o.cell 1;have b2:=HBX.o.cell 2;have b3:=HBX.o.cell 3;have bl:=HBX.o.lt;have s5:=HS.o.cell 5;have sl:=HS.o.lt;have HB4:=lH (below_drew (Below.refl we.heap.size we))
   refine wp_region_last4X (S:=fun w'=>Below we.heap.size we w') 11 0 _ _ _ _ _ (.pointer (some ⟨g,0,none⟩)) (by kernel_rfl) (by kernel_rfl) (by kernel_rfl) (by kernel_rfl) (by kernel_rfl) rfl (by decide) (by kernel_rfl) rfl rfl rfl rfl (by kernel_rfl) (fun _ _ _ h=>h) (by rfl) (fun w'=>by go_simp<;>with_reducible rfl) (below_drew bR) (fun hHeld=>?_);simp only [zK_,List.take_zero]
   try simp only [Act.put,sA_,sB_,sC_]
   refine tkH 1 rfl ?_;refine tkH 2 rfl ?_;refine tkH 3 rfl ?_;refine tkH 4 rfl ?_;refine tkH 5 rfl ?_;refine tkH 6 rfl ?_;refine tkH 7 rfl ?_;refine tkH 8 rfl ?_;refine stepH 9 (by kernel_rfl) rfl (fun K hK=>?_);go_simp;rw [HSH.o];refine (HSF.o _).mono ?_;rintro e w11 ⟨hb11,v11,rfl,h11⟩;have HB11:Hid (Below we.heap.size we w11):=lH (HB4.o.tm hb11);have H11:=lH h11;clear hb11 h11;go_simp;refine hK.out _ _ ?_ (fun hHeld=>?_)
   ·exact HB11.o
   clear hK K
   try simp only [Act.put,sA_,sB_,sC_]
   refine stepH 10 (by kernel_rfl) rfl (fun K hK=>?_);go_simp;refine (mulV (HV10.o.up HB11.o) H11.o HQM.o).mono ?_;rintro e w12 ⟨hb12,v12,rfl,h12⟩;have HB12:Hid (Below we.heap.size we w12):=lH (HB11.o.tm hb12);have H12:=lH h12;clear hb12 h12 HB11 H11;go_simp;refine hK.out _ _ ?_ (fun hHeld=>?_)
   ·exact HB12.o
   clear hK K
   try simp only [Act.put,sA_,sB_,sC_]
   refine stepH 11 (by kernel_rfl) rfl (fun K hK=>?_);go_simp;refine hK.out _ _ ?_ (fun hHeld=>?_)
   ·exact HB12.o.alloc HB12.o.size _
   clear hK K
   try simp only [Act.put,sA_,sB_,sC_]
   refine wpAnyH_done (by kernel_rfl) ?_ _;refine lastQ_go (by rfl) ?_;clear hHeld;have hbl:Below we.heap.size we (w12.alloc (.cells #[.bool v12.b1,.slice v12.A v12.n v12.c,.bool v12.b2,.slice v12.A2 v12.m v12.d] 115)):=HB12.o.alloc HB12.o.size _;have HLT:Hid (Blk (w12.alloc (.cells #[.bool v12.b1,.slice v12.A v12.n v12.c,.bool v12.b2,.slice v12.A2 v12.m v12.d] 115)) w12.heap.size 115 #[.bool v12.b1,.slice v12.A v12.n v12.c,.bool v12.b2,.slice v12.A2 v12.m v12.d]):=lH (Blk.new w12 _ _);replace HM:=lH (HM.o.up hbl);replace HS:=lH (HS.o.bl hbl);replace HBX:=lH (HBX.o.bl hbl);replace HV10:=lH (HV10.o.up hbl);have HVU:=lH (H12.o.up ((Below.refl w12.heap.size w12).alloc lR (.cells #[.bool v12.b1,.slice v12.A v12.n v12.c,.bool v12.b2,.slice v12.A2 v12.m v12.d] 115)));clear z4 zl b0 b1 b2 b3 bl HB4 hbl s5 sl
   generalize w12.alloc (.cells #[.bool v12.b1,.slice v12.A v12.n v12.c,.bool v12.b2,.slice v12.A2 v12.m v12.d] 115)=wl at *;generalize w12.heap.size=gq at *;refine wp_app_blk2 (S:=NoI) (.tmp 83) (.tmp 90) 93 rfl (g+1) 115 i1 _ 4 64 Tryz.underlying93 RI0.out RI1.out RI2.out RI3.out rfl (by omega) zr_noI vC _ _ (by rfl) HM.o.oC.own gq 115 #[.bool v12.b1,.slice v12.A v12.n v12.c,.bool v12.b2,.slice v12.A2 v12.m v12.d] (by rfl) HLT.o rfl ?k1 ?k2 ?k3 ?k4 ?_
   case k1=>exact rv_noI v12
   case k2=>have:=HM.o.oC.len;have:=HFL.o.2.2.2;simp only [maxLen];omega
   case k3=>have:=HM.o.oC.len;have:=HFL.o.2.2.2;omega
   case k4=>exact HM.o.blk.lt
   intro pA pn pc w9 q1 q2 q3 q4;have hm9:=HM.o.appC HVU.o q1 q2 q3 q4;have hb9:=q2.blk _ _ _ HM.o.blk (by decide);have hs9:=q2.blk _ _ _ HS.o (by decide);have HMN:=lH hm9;have HS9:=lH (hs9.far (p:=⟨g,5,none⟩) (by have:=HGX.o;show gx≠g;omega) (.slice pA pn pc));have p2:=hb9.cell 5;have pl:=hb9.lt;have pf:=hb9.frozen;clear q1 q2 q3 q4 hm9 hb9 hs9 HM HS HLT HVU HBX HV10 H12 HB12;refine lastQ_go (by rfl) ?_;go_simp;refine lastQ_go (by rfl) ?_;go_simp;refine lastQ_go (by rfl) ?_
   go_wp2_with fail
   clear p2 pl pf;go_roundw
   case rel=>
    have hm:=HMN.o;rw [show susR s*Rat.divInt (-s.shift) 1000=conR s from rfl,←HT4.o] at hm;exact ⟨k+1,_,_,_,_,_,_,hlt,val_int HN1.o,hm⟩
   case measure=>exact HN2.o
  ·have hke:k=m2:=by omega
   have HZ:Hid (MdZ g w1 wr (.slice (some ⟨g1,0,none⟩) m0 m0) (.slice (some ⟨g2,0,none⟩) (busN x) (busN x)) vF vT vB vC (.slice none 0 0) (mFrom x) (mTo x) uB uC (mB x) (mC x) []):=lH (by
    have h:=HM.o.z;rw [zH_ (by rw [mFrom_len];have:=HL2.o;omega),zH_ (by rw [mTo_len];have:=HL2.o;omega),zH_ (by rw [mB_len];have:=HL2.o;omega),zH_ (by rw [mC_len];have:=HL2.o;omega)] at h;exact h)
   have hkI:¬(k:Int)<(m2:Int):=by omega
   have HGR:Hid (g<wr.heap.size):=lH HM.o.blk.lt;have hba:Below wr.heap.size wr (wr.alloc (.map #[] 0)):=bA;have HSM:Hid (∃ n,SeenI (wr.alloc (.map #[] 0)) wr.heap.size n ((islN x).take 0)∧n≤0):=lH ⟨0,SeenI.made wr,lR⟩;replace HZ:=lH (HZ.o.up hba);have HBN:Hid (busN x≤24):=lH (zI_ (busN_ok HOK.o).2 (by have:=HL0.o;omega));have HIS:=lH (natJ_isl HOK.o);have hmake:=@run_makeMap Tryz.prog;have z1:=HZ.o.blk.cell 1;have zl:=HZ.o.blk.lt;clear hke HM HRW HXR HW hba hk hlt
   go_wp2_with fail
   clear hmake z1 zl;generalize wr.alloc (.map #[] 0)=wm at *;generalize wr.heap.size=bm at *
   go_loopw [102] (fun v102 wr=>∃ (k:Nat) (vZ:Value),k≤busN x∧v102=.int .i64 k∧MdZ g w1 wr (.slice (some ⟨g1,0,none⟩) m0 m0) (.slice (some ⟨g2,0,none⟩) (busN x) (busN x)) vF vT vB vC vZ (mFrom x) (mTo x) uB uC (mB x) (mC x) (pick (freeB (islN x)) k)∧∃ n,SeenI wr bm n ((islN x).take k)∧n≤k) (fun v102 _=>busN x-(intOf v102).toNat)
   case atStart=>exact ⟨0,_,Nat.zero_le _,rfl,HZ.o,HSM.o⟩
   case round=>
    clear HZ HSM;obtain ⟨k,vZ,hk,rfl,hz,n,hsn,hn⟩:=hrel;have HZ:=lH hz;have HSN:=lH hsn;have hz1:=hz.low;clear hz hsn
    by_cases hlt:k<busN x
    ·obtain ⟨s,hs⟩:∃ s,(islN x)[k]?=some s:=zX_ (by rw [HIS.o.2];exact hlt)
     have hi0:(islR x)[k]?=some (s:Int):=by rw [←HIS.o.1];exact natJ_at hs
     have hic:=intsGet (HK2.o.below hz1 (by have:=HK2.o.lt;have:=HG.o;omega)) hi0;have HTK:=lH (take_at hs);have hsd:(islN x).getD k 0=s:=by rw [zD_,hs];rfl
     have HFR:Hid ((((islN x).take k).any fun y=>y == s)=freeB (islN x) k):=lH (by rw [←seen_free (by rw [HIS.o.2];exact hlt),hsd]);have HPK:=lH (pick_succ (freeB (islN x)) k);have hs24:s≤24:=by
      have h1:=(parts_ok (brE_ok HOK.o).1).2 (s:Int) (zC_ hi0);have:=HBN.o;omega
     have HKEY:Hid (keyOf Tryz.prog 3 (.int .i64 (s:Int))=some (.int .i64 (s:Int))):=lH (keyOf_int_mk Tryz.underlying3 (by simp [Lit.wf,IntKind.min,IntKind.max,IntKind.signed,IntKind.bits];omega));have hgl2:g2<wr.heap.size:=by have:=HK2.o.lt;have:=HG.o;have:=hz1.size;omega
     have hkI:(k:Int)<(busN x:Int):=by omega
     have HN1:=lN k;have HN2:Hid (busN x-(k+1)<busN x-k):=lH (by omega);have hb24:=HBN.o;have HGG2:Hid (g≤w1.heap.size):=lH (by rw [HG.o];exact lR);have HPL:Hid ((pick (freeB (islN x)) k).length≤24):=lH (by unfold pick;refine zI_ (List.length_filter_le _ _) ?_;rw [List.length_range];omega);clear hs hi0 hsd hz1;have hsnn:=HSN.o;obtain ⟨D,hown,hmap,hat⟩:=hsnn;have HO1:=lH hown;have HAT:=lH hat;have hn24:n≤24:=by omega
     cases hfb:freeB (islN x) k with
     | false=>
      have HSEEN:Hid (D.atKey (.int .i64 (s:Int)) (.lit (.bool false))=.lit (.bool false)):=lH (by rw [HAT.o,HFR.o,hfb]);have HPK2:Hid (pick (freeB (islN x)) (k+1)=pick (freeB (islN x)) k):=lH (by rw [HPK.o,hfb];simp);clear hfb hown hat
      go_wp2_with (first | (at_lookup;refine wpList_lookup_own_bool _ rfl _ _ 157 rfl 3 4 law_int Tryz.underlying157 Tryz.underlying4 (zero_bool _) bm n D rfl HO1.o _ _ rfl HKEY.o _ HSEEN.o ?_) | (at_mapUpdate;refine wpList_mapUpdate_own _ rfl _ _ _ 157 rfl 3 4 law_int Tryz.underlying157 _ bm n D rfl HO1.o (by unfold maxLen;omega) _ _ _ rfl rfl HKEY.o _ [] (plainElem_bool Tryz.underlying4 true) ?_))
      intro w5 hown5 hg5;have HS5:=lH (SeenI.put s hown5 hmap HAT.o);have HZ5:=lH (HZ.o.mapped HSN.o hg5 HGR.o HGG2.o);clear hown5 hg5 HO1 HAT HSEEN hic hgl2
      go_wp2_with fail
      go_roundw
      case rel=>exact ⟨k+1,vZ,hlt,val_int HN1.o,by rw [HPK2.o];exact HZ5.o,n+1,by rw [HTK.o];exact HS5.o,by omega⟩
      case measure=>exact HN2.o
     | true=>
      have HSEEN:Hid (D.atKey (.int .i64 (s:Int)) (.lit (.bool false))=.lit (.bool true)):=lH (by rw [HAT.o,HFR.o,hfb]);have HPK2:Hid (pick (freeB (islN x)) (k+1)=pick (freeB (islN x)) k++[k]):=lH (by rw [HPK.o,hfb];simp);have hba:Below wr.heap.size wr (wr.alloc (.cells #[.int .i64 (k:Int)] 3)):=bA;have HZA:=lH (HZ.o.up hba);have HSA:=lH (HSN.o.below hba);have HLT:=lH (Blk.new wr 3 #[.int .i64 (k:Int)]);have z6:=HZ.o.blk.cell 6;have zl:=HZ.o.blk.lt;clear hfb hown hat hba
      go_wp2_with (first | (at_lookup;refine wpList_lookup_own_bool _ rfl _ _ 157 rfl 3 4 law_int Tryz.underlying157 Tryz.underlying4 (zero_bool _) bm n D rfl HO1.o _ _ rfl HKEY.o _ HSEEN.o ?_) | (at_builtin;refine wpList_app_blk2 (S:=IsI) rfl (.tmp 114) (.tmp 116) 30 rfl (g+1) 3 i0 _ 1 8 Tryz.underlying30 HI0.o HI1.o HI2.o HI3.o rfl (by omega) zi_I vZ _ _ rfl HZA.o.oZ wr.heap.size 3 #[.int .i64 (k:Int)] rfl HLT.o rfl ?k1 ?k2 ?k3 ?k4 ?_))
      case k1=>first | (intro u hu;rw [show u=.int .i64 (k:Int) from by simpa using hu];exact ⟨rfl,_,rfl⟩) | exact ⟨rfl,_,rfl⟩
      case k2=>have:=HPL.o;simp only [maxLen];omega
      case k3=>have:=HPL.o;omega
      case k4=>exact HZA.o.blk.lt
      intro pA pn pc w9 q1 q2 q3 q4;have hz9:=HZA.o.app q1 q2 (by simpa using q3) (fun i hi=>q4 i (by simpa using hi));have hgr9:(wr.alloc (.cells #[.int .i64 (k:Int)] 3)).grownBy w9 vZ.ownBlock:=⟨q2.low.os,q2.low.tape,q2.low.output,q2.size,fun i hi hne=>q4 i (by simpa using hi) (fun e=>hne e.symm)⟩;have hs9:=HSA.o.kept hgr9 (SeenI.apart HSA.o HZA.o.oZ);have hb9:=q2.blk _ _ _ HZA.o.blk (by decide);have HS9:Hid (SeenI (w9.setCell ⟨g,6,none⟩ (.slice pA pn pc)) bm n ((islN x).take k)):=lH (hs9.kept (only_setCell (only_of_below bR (some g)) (.inl rfl) _) (by intro e;injection e with e;have:=HGR.o;omega));have HZ9:=lH hz9;have p6:=hb9.cell 6;have pl:=hb9.lt;have pf:=hb9.frozen;clear q1 q2 q3 q4 hz9 hgr9 hs9 hb9 HZA HSA HLT HO1 HAT HSEEN hic hgl2 z6 zl HSN HZ hmap
      go_upto_region 17 with fail
      clear p6 pl pf;generalize w9.setCell ⟨g,6,none⟩ (.slice pA pn pc)=wq at *;generalize Value.slice pA pn pc=vZ2 at *;have hsq:=HS9.o;obtain ⟨D2,hown,hmap,hat⟩:=hsq;have HO2:=lH hown;have HAT2:=lH hat;clear hown hat
      go_wp2_with (at_mapUpdate;refine wpList_mapUpdate_own _ rfl _ _ _ 157 rfl 3 4 law_int Tryz.underlying157 _ bm n D2 rfl HO2.o (by unfold maxLen;omega) _ _ _ rfl rfl HKEY.o _ [] (plainElem_bool Tryz.underlying4 true) ?_)
      intro w5 hown5 hg5;have HS5:=lH (SeenI.put s hown5 hmap HAT2.o);have HZ5:=lH (HZ9.o.mapped HS9.o hg5 HGR.o HGG2.o);clear hown5 hg5 HO2 HAT2
      go_wp2_with fail
      go_roundw
      case rel=>exact ⟨k+1,vZ2,hlt,val_int HN1.o,by rw [HPK2.o];exact HZ5.o,n+1,by rw [HTK.o];exact HS5.o,by omega⟩
      case measure=>exact HN2.o
    ·have hkI:¬(k:Int)<(busN x:Int):=by omega
     have hke:k=busN x:=by omega
     have hFL:pick (freeB (islN x)) k=freeL x:=by rw [hke];rfl
     have hzz:=HZ.o;rw [hFL] at hzz;obtain ⟨aF,cF,hvF,hrF⟩:=rdI_ownS hzz.oF;obtain ⟨aT,cT,hvT,hrT⟩:=rdI_ownS hzz.oT;obtain ⟨aZ,cZ,hvZ,hrZ⟩:=rdI_ownS hzz.oZ;obtain ⟨aB,cB,hvB,hrB,-⟩:=hzz.oB.rd;obtain ⟨aC,cC,hvC,hrC,-⟩:=hzz.oC.rd;have hk1:=HK1.o.below hzz.low (by have:=HK1.o.lt;have:=HG.o;omega);have hk2:=HK2.o.below hzz.low (by have:=HK2.o.lt;have:=HG.o;omega);have hbl:=(busR_ok HOK.o).1;have hisl:=(parts_ok (brE_ok HOK.o).1).1;have HMO:Hid (RdMod wr wr.heap.size ⟨some ⟨g1,0,none⟩,m0,m0,some ⟨g2,0,none⟩,busN x,busN x,aF,(mFrom x).length,cF,aT,(mTo x).length,cT,aB,(mB x).length,cB,aC,(mC x).length,cC,aZ,(freeL x).length,cZ⟩ x):=lH ⟨rdI_blk hk1 (by rw [hbl];exact HL0.o),rdI_blk hk2 hisl,hrF,hrT,hrB,hrC,hrZ⟩;have HBK:=lH hzz.blk;rw [hvF,hvT,hvZ,hvB,hvC] at HBK;have HLOW:=lH hzz.low
     have HIV:=lH (invert_any g ⟨some ⟨g1,0,none⟩,m0,m0,some ⟨g2,0,none⟩,busN x,busN x,aF,(mFrom x).length,cF,aT,(mTo x).length,cT,aB,(mB x).length,cB,aC,(mC x).length,cC,aZ,(freeL x).length,cZ⟩ x HOK.o H8.o wr HBK.o HMO.o);have zl:=HBK.o.lt;clear hke hFL hzz hvF hrF hvT hrT hvZ hrZ hvB hrB hvC hrC hk1 hk2 hbl hisl HZ HSN HMO HBK
     go_wp2_with fail
     refine HIV.o.mono ?_;rintro e w5 ⟨rfl,hgr,hmo,A,n9,c9,hbk,hinv⟩;have HB5:Hid (Below w.heap.size w w5):=lH (HB1.o.trans (below_only HLOW.o hgr lR (by rw [HG.o];exact lR) |>.mono HGW.o.2));have HMO:=lH hmo;have HBK:=lH hbk;have HINV:=lH hinv;clear hgr hmo hbk hinv HIV
     go_wp2_with fail
     go_ret;exact ⟨HB5.o,g,_,A,n9,c9,rfl,HGW.o.2,HBK.o,HMO.o,HINV.o⟩
end
end Go.Proofs.YthgdchffeigkbaaGreatDoor

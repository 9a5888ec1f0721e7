import Derived.Test.YthgdchffeigkbaaGreatDoorU16
import Derived.Test.YthgdchffeigkbaaGreatDoorU18
import Derived.Laws.CopyRow
set_option linter.unusedVariables false
set_option linter.unusedSimpArgs false
namespace Go.Proofs.YthgdchffeigkbaaGreatDoor
set_option maxHeartbeats 8000000
set_option maxRecDepth 100000
section
open Go.ChangeShapes Go.WideShapes Go.ChangeAt Go.RowKit
attribute [local go_sem ↓] execOp_call_val
attribute [local go_sem] callVal_func setCell_drewN alloc_drewN sEq_walk
def QP (q:Rat) (w:World) (e:Ending) (w':World):Prop:=Below w.heap.size w w'∧∃ v:Rv,e=.returned (.agg #[.bool v.b1,.slice v.A v.n v.c,.bool v.b2,.slice v.A2 v.m v.d])∧RtV w' w'.heap.size q v
theorem RtP.qp {q:Rat} {w w':World} {e:Ending} (h:RtP q w e w'):QP q w e w':=by
 obtain ⟨hb,b1,A,n,c,b2,A2,m,d,he,h⟩:=h;exact ⟨hb,⟨b1,A,n,c,b2,A2,m,d⟩,he,h⟩
section
variable {w w':World} {B B':Nat} {q:Rat} {v:Rv}
theorem RtV.below (h:RtV w B q v) (hb:Below B' w w') (hB:B≤B'):RtV w' B q v:=RtIs.below h hb hB
theorem RtV.more (h:RtV w B q v) (hB:B≤B'):RtV w B' q v:=RtIs.more h hB
theorem RtV.up (h:RtV w w.heap.size q v) (hb:Below w.heap.size w w'):RtV w' w'.heap.size q v:=RtIs.up h hb
end
theorem mulV {p q:Rat} {v u:Rv} {w:World} (h1:RtV w w.heap.size p v) (h2:RtV w w.heap.size q u) (hs:qsz p+qsz q+1≤35184372088832):Calls Tryz.prog 70 #[.agg #[.bool v.b1,.slice v.A v.n v.c,.bool v.b2,.slice v.A2 v.m v.d],.agg #[.bool u.b1,.slice u.A u.n u.c,.bool u.b2,.slice u.A2 u.m u.d]] w (QP (p*q) w):=
 (rmul_any p q v.b1 v.A v.n v.c v.b2 v.A2 v.m v.d u.b1 u.A u.n u.c u.b2 u.A2 u.m u.d w h1 h2 hs).mono fun _ _ h=>h.qp
theorem addV {p q:Rat} {v u:Rv} {w:World} (h1:RtV w w.heap.size p v) (h2:RtV w w.heap.size q u) (hs:qsz p+qsz q+1≤35184372088832):Calls Tryz.prog 69 #[.agg #[.bool v.b1,.slice v.A v.n v.c,.bool v.b2,.slice v.A2 v.m v.d],.agg #[.bool u.b1,.slice u.A u.n u.c,.bool u.b2,.slice u.A2 u.m u.d]] w (QP (p+q) w):=
 (radd_any p q v.b1 v.A v.n v.c v.b2 v.A2 v.m v.d u.b1 u.A u.n u.c u.b2 u.A2 u.m u.d w h1 h2 hs).mono fun _ _ h=>h.qp
theorem subV {p q:Rat} {v u:Rv} {w:World} (h1:RtV w w.heap.size p v) (h2:RtV w w.heap.size q u) (hs:qsz p+qsz q+1≤35184372088832):Calls Tryz.prog 68 #[.agg #[.bool v.b1,.slice v.A v.n v.c,.bool v.b2,.slice v.A2 v.m v.d],.agg #[.bool u.b1,.slice u.A u.n u.c,.bool u.b2,.slice u.A2 u.m u.d]] w (QP (p-q) w):=
 (rsub_any p q v.b1 v.A v.n v.c v.b2 v.A2 v.m v.d u.b1 u.A u.n u.c u.b2 u.A2 u.m u.d w h1 h2 hs).mono fun _ _ h=>h.qp
theorem divV {p q:Rat} {v u:Rv} {w:World} (h1:RtV w w.heap.size p v) (h2:RtV w w.heap.size q u) (hq:q≠0) (hs:qsz p+qsz q+1≤35184372088832):Calls Tryz.prog 120 #[.agg #[.bool v.b1,.slice v.A v.n v.c,.bool v.b2,.slice v.A2 v.m v.d],.agg #[.bool u.b1,.slice u.A u.n u.c,.bool u.b2,.slice u.A2 u.m u.d]] w (QP (p / q) w):=
 (rdiv_any p q v.b1 v.A v.n v.c v.b2 v.A2 v.m v.d u.b1 u.A u.n u.c u.b2 u.A2 u.m u.d w h1 h2 hq hs).mono fun _ _ h=>h.qp
theorem negV {p:Rat} {v:Rv} {w:World} (h1:RtV w w.heap.size p v):Calls Tryz.prog 108 #[.agg #[.bool v.b1,.slice v.A v.n v.c,.bool v.b2,.slice v.A2 v.m v.d]] w (QP (-p) w):=
 (rneg_any p v.b1 v.A v.n v.c v.b2 v.A2 v.m v.d w h1).mono fun _ _ h=>h.qp
theorem signV {p:Rat} {v:Rv} {w:World} (h1:RtV w w.heap.size p v):Calls Tryz.prog 119 #[.agg #[.bool v.b1,.slice v.A v.n v.c,.bool v.b2,.slice v.A2 v.m v.d]] w fun e w'=>e=.returned (.int .i64 p.num.sign)∧Below w.heap.size w w':=rsign_any p v.b1 v.A v.n v.c v.b2 v.A2 v.m v.d w h1
theorem wholeV (k:Int) (w:World) (h0:-9223372036854775808≤k) (h1:k≤9223372036854775807):Calls Tryz.prog 66 #[.int .i64 k] w (QP (k:Rat) w):=(whole_any k w h0 h1).mono fun _ _ h=>h.qp
theorem fracV (k d:Int) (w:World) (h0:-9223372036854775808≤k) (h1:k≤9223372036854775807) (h2:-9223372036854775808≤d) (h3:d≤9223372036854775807) (hd:d≠0):Calls Tryz.prog 92 #[.int .i64 k,.int .i64 d] w (QP (Rat.divInt k d) w):=(frac_any k d w h0 h1 h2 h3 hd).mono fun _ _ h=>h.qp
theorem textV {q:Rat} {v:Rv} {w:World} (h1:RtV w w.heap.size q v) (ht:TabOk w):Calls Tryz.prog 71 #[.agg #[.bool v.b1,.slice v.A v.n v.c,.bool v.b2,.slice v.A2 v.m v.d]] w (RtxP q w):=rtext_any q v.b1 v.A v.n v.c v.b2 v.A2 v.m v.d w h1 ht
theorem parseV {s:ByteArray} (h:ratCk s.data.toList=0) (w:World):Calls Tryz.prog 67 #[.string s] w (QP (qOf s) w):=(parse_str h w).mono fun _ _ h=>h.qp
theorem qput {w:World} {g T:Nat} {x v:Rv} (h:Blk w g T #[.bool x.b1,.slice x.A x.n x.c,.bool x.b2,.slice x.A2 x.m x.d]):Blk ((((w.setCell ⟨g,0,none⟩ (.bool v.b1)).setCell ⟨g,1,none⟩ (.slice v.A v.n v.c)).setCell ⟨g,2,none⟩ (.bool v.b2)).setCell ⟨g,3,none⟩ (.slice v.A2 v.m v.d)) g T #[.bool v.b1,.slice v.A v.n v.c,.bool v.b2,.slice v.A2 v.m v.d]:=blk_set4 h
theorem RtV.keepq {w:World} {g T:Nat} {x v u:Rv} {q:Rat} (h:RtV w w.heap.size q u) (hb:Blk w g T #[.bool x.b1,.slice x.A x.n x.c,.bool x.b2,.slice x.A2 x.m x.d]):RtV ((((w.setCell ⟨g,0,none⟩ (.bool v.b1)).setCell ⟨g,1,none⟩ (.slice v.A v.n v.c)).setCell ⟨g,2,none⟩ (.bool v.b2)).setCell ⟨g,3,none⟩ (.slice v.A2 v.m v.d)) ((((w.setCell ⟨g,0,none⟩ (.bool v.b1)).setCell ⟨g,1,none⟩ (.slice v.A v.n v.c)).setCell ⟨g,2,none⟩ (.bool v.b2)).setCell ⟨g,3,none⟩ (.slice v.A2 v.m v.d)).heap.size q u:=by
 have B1:=hb.set_at (i:=0) (cs':=#[.bool v.b1,.slice x.A x.n x.c,.bool x.b2,.slice x.A2 x.m x.d]) (.bool v.b1) (by simp);have B2:=B1.set_at (i:=1) (cs':=#[.bool v.b1,.slice v.A v.n v.c,.bool x.b2,.slice x.A2 x.m x.d]) (.slice v.A v.n v.c) (by simp);have B3:=B2.set_at (i:=2) (cs':=#[.bool v.b1,.slice v.A v.n v.c,.bool v.b2,.slice x.A2 x.m x.d]) (.bool v.b2) (by simp);exact (((RtIs.keep h (hb.cell 0) (by simp) _).keep (B1.cell 1) (by simp) _).keep (B2.cell 2) (by simp) _).keep (B3.cell 3) (by simp) _
theorem qfar {w:World} {g g' T:Nat} {cs:Array Value} {v:Rv} (h:Blk w g' T cs) (hg:g'≠g):Blk ((((w.setCell ⟨g,0,none⟩ (.bool v.b1)).setCell ⟨g,1,none⟩ (.slice v.A v.n v.c)).setCell ⟨g,2,none⟩ (.bool v.b2)).setCell ⟨g,3,none⟩ (.slice v.A2 v.m v.d)) g' T cs:=(((h.far hg _).far hg _).far hg _).far hg _
def putQ (w:World) (g:Nat) (v:Rv):World:=(((w.setCell ⟨g,0,none⟩ (.bool v.b1)).setCell ⟨g,1,none⟩ (.slice v.A v.n v.c)).setCell ⟨g,2,none⟩ (.bool v.b2)).setCell ⟨g,3,none⟩ (.slice v.A2 v.m v.d)
theorem below_putQ {a w:World} {B g:Nat} {v:Rv} (h:Below B a w) (hg:B≤g):Below B a (putQ w g v):=below_set4 h hg
theorem RdQ.keepq {w:World} {g T n:Nat} {A:Option Addr} {x v:Rv} {qs:List Rat} {B:Nat} (h:RdQ w B A n qs) (hB:B≤g):RdQ (putQ w g v) B A n qs:=h.below (below_putQ (Below.refl B w) hB) lR
theorem qsz_whole (k:Int) (h0:-9223372036854775808≤k) (h1:k≤9223372036854775807):qsz (k:Rat)≤2:=by
 unfold qsz;rw [Rat.num_intCast,Rat.den_intCast];exact Nat.max_le.2 ⟨dlen_le (by show _<4294967296^2;omega),by decide+kernel⟩
def sumR (qs:List Rat):Rat:=qs.foldl (·+·) 0
theorem sumR_snoc (qs:List Rat) (q:Rat):sumR (qs++[q])=sumR qs+q:=by unfold sumR;rw [List.foldl_append];rfl
theorem sumR_qsz:∀ (n:Nat) (qs:List Rat),qs.length=n→∀ b,(∀ q∈qs,qsz q≤b)→qsz (sumR qs)≤n*(b+1)+1
 | 0,qs,h,b,hb=>by
  rw [List.length_eq_zero_iff] at h;subst h;show qsz 0≤_;have:qsz 0≤1:=by decide+kernel
  omega
 | n+1,qs,h,b,hb=>by
  obtain ⟨r,q,rfl⟩:∃ r q,qs=r++[q]:=⟨qs.dropLast,qs.getLast (by intro e;subst e;simp at h),(List.dropLast_concat_getLast _).symm⟩;rw [zE_,List.length_singleton] at h;have h1:=sumR_qsz n r (by omega) b fun q hq=>hb q (List.mem_append_left _ hq);have h2:=hb q (by simp);rw [sumR_snoc];have h3:=add_qsz (sumR r) q;rw [Nat.succ_mul];omega
def dotR (a b:List Rat):Rat:=sumR (List.zipWith (·*·) a b)
def IsI (u:Value):Prop:=∃ x,u=.int .i64 x
theorem RtV.keepsI {w w':World} {base e:Nat} {q:Rat} {v:Rv} (h:RtV w w.heap.size q v) (k:Keeps IsI base e w w'):RtV w' w'.heap.size q v:=by
 have key:∀ {A:Option Addr} {n:Nat} {l:List Nat},RdW w w.heap.size A n l→RdW w' w'.heap.size A n l:=fun h=>⟨h.1,fun hn=>by
  obtain ⟨b,off,e,hlt,hc⟩:=h.2 hn;refine ⟨b,off,e,zJ_ hlt k.size,fun j u hu=>k.cell _ _ (hc j u hu) ?_⟩;obtain ⟨x,rfl⟩:=u32_int hu;rintro ⟨y,hy⟩;cases hy⟩
 exact ⟨⟨h.num.eb,h.num.en,key h.num.rd,h.num.nc,h.num.cm⟩,⟨h.den.eb,h.den.en,key h.den.rd,h.den.nc,h.den.cm⟩⟩
theorem OwnM.keepsI {w w':World} {base base' g:Nat} {hs:List Mh} {M:List (List Rat)} (o:OwnM w base g hs M) (k:Keeps IsI base' 3 w w'):OwnM w' base g hs M:=
 ⟨k.blk _ _ _ o.top (by decide),o.len,o.gb,fun i h q hh hq=>by
  have r:=o.row i h q hh hq;refine ⟨r.len,r.cap,r.cm,fun a p v hp hv=>(r.ok a p v hp hv).keepsI k,fun h0=>?_⟩;obtain ⟨h1,h2,h3,cs,h4,h5⟩:=r.lies h0;exact ⟨h1,h2,h3,cs,k.blk _ _ _ h4 (by decide),h5⟩,o.dis⟩
theorem Blk.apart {w:World} {g g' t t':Nat} {cs cs':Array Value} (h:Blk w g t cs) (h':Blk w g' t' cs') (ht:t≠t'):g≠g':=by
 rintro rfl;have h2:some (Obj.cells cs t (0,0))=some (Obj.cells cs' t' (0,0)):=h.symm.trans h';injection h2 with h2;injection h2 with _ h2;exact ht h2
theorem OwnS.far {S:Value→Prop} {w:World} {base e size n g t i:Nat} {v u:Value} {xs:List Value} {cs:Array Value} (h:OwnS S w base e size v n xs) (hb:Blk w g t cs) (ht:e≠t):OwnS S (w.setCell ⟨g,i,none⟩ u) base e size v n xs:=by
 refine ⟨h.1,?_⟩;rcases h.2 with h1 | ⟨b,cap,cur,h1,h2,h3,h4⟩
 ·exact .inl h1
 ·exact .inr ⟨b,cap,cur,h1,h2,h3.far (h3.apart hb ht) u,h4⟩
theorem OwnS.far4 {S:Value→Prop} {w:World} {base e size n g t i:Nat} {v:Value} {x:Rv} {xs:List Value} {cs:Array Value} (h:OwnS S w base e size v n xs) (hb:Blk w g t cs) (ht:e≠t):OwnS S (putV w g i x) base e size v n xs:=by
 have b1:=hb.set_ (i*4) (.bool x.b1);have b2:=b1.set_ (i*4+1) (.slice x.A x.n x.c);have b3:=b2.set_ (i*4+2) (.bool x.b2);exact (((h.far hb ht).far b1 ht).far b2 ht).far b3 ht
def natI (l:List Nat):List Value:=l.map fun (x:Nat)=>Value.int .i64 (x:Int)
def RedP (M:List (List Rat)) (cols:Nat) (w:World) (e:Ending) (w':World):Prop:=Below w.heap.size w w'∧∃ g hs v,e=.returned (.tuple #[.slice (some ⟨g,0,none⟩) M.length M.length,v])∧OwnM w' w.heap.size g hs (redR M cols).1∧OwnS IsI w' w.heap.size 3 1 v (redR M cols).2.length (natI (redR M cols).2)
structure MatS (B0 g:Nat) (w0 wr:World) (v:Value) (piv:List Nat) (hs:List Mh) (L:List (List Rat)):Prop where
 own:OwnM wr B0 g hs L
 pv:OwnS IsI wr B0 3 1 v piv.length (natI piv)
 low:Below B0 w0 wr
section
variable {B0 g:Nat} {w0 wr w':World} {v:Value} {piv:List Nat} {hs:List Mh} {L:List (List Rat)}
theorem MatS.le (m:MatS B0 g w0 wr v piv hs L):B0≤wr.heap.size:=zI_ m.own.gb (zQ_ m.own.top.lt)
theorem MatS.up (m:MatS B0 g w0 wr v piv hs L) (hb:Below wr.heap.size wr w'):MatS B0 g w0 w' v piv hs L:=⟨m.own.up hb,m.pv.keep hb,m.low.trans (hb.mono m.le)⟩
theorem MatS.put (m:MatS B0 g w0 wr v piv hs L) {i j:Nat} {h:Mh} {q:List Rat} {x:Rv} {y:Rat} (hh:hs[i]?=some h) (hq:L[i]?=some q) (hj:j<q.length) (hv:RtV wr wr.heap.size y x):MatS B0 g w0 (putV wr h.g j x) v piv (hs.set i ⟨h.A,h.g,h.c,h.vs.set j x⟩) (L.set i (q.set j y)):=by
 obtain ⟨h1,h2,h3,cs,h4,h5⟩:=(m.own.row i h q hh hq).lies (by omega);exact ⟨m.own.put hh hq hj hv,m.pv.far4 h4 (by decide),below_putV m.low h2⟩
theorem MatS.swap (m:MatS B0 g w0 wr v piv hs L) {r p:Nat} {a b:List Rat} {ha hb:Mh} (h1:hs[r]?=some ha) (h2:hs[p]?=some hb) (h3:L[r]?=some a) (h4:L[p]?=some b) :
    MatS B0 g w0 ((wr.setCell ⟨g,r,none⟩ (.slice hb.A b.length hb.c)).setCell ⟨g,p,none⟩ (.slice ha.A a.length ha.c)) v piv ((hs.set r hb).set p ha) ((L.set r b).set p a):=
 ⟨m.own.swap h1 h2 h3 h4,(m.pv.far m.own.top (by decide)).far (m.own.top.set_ _ _) (by decide),(m.low.setCell m.own.gb _).setCell m.own.gb _⟩
theorem MatS.elem (m:MatS B0 g w0 wr v piv hs L) {i j:Nat} {q:List Rat} (hq:L[i]?=some q) (hj:j<q.length):∃ (gg c:Nat) (vs:List Rv) (x:Rv),hs[i]?=some ⟨some ⟨gg,0,none⟩,gg,c,vs⟩∧wr.cell? ⟨g,i,none⟩=some (.slice (some ⟨gg,0,none⟩) q.length c)∧vs[j]?=some x∧
    wr.cell? ⟨gg,j*4,none⟩=some (.bool x.b1)∧wr.cell? ⟨gg,j*4+1,none⟩=some (.slice x.A x.n x.c)∧wr.cell? ⟨gg,j*4+2,none⟩=some (.bool x.b2)∧wr.cell? ⟨gg,j*4+3,none⟩=some (.slice x.A2 x.m x.d)∧RtV wr wr.heap.size (vf q j) x∧gg<wr.heap.size∧(∀ o,wr.frozen? ⟨gg,o,none⟩=false)∧g≠gg:=by
 obtain ⟨⟨A,gg,c,vs⟩,hh,hc,hr⟩:=m.own.get hq;obtain ⟨h1,h2,h3,cs,h4,h5⟩:=hr.lies (by omega);simp only at h1 hc;subst h1;obtain ⟨x,hx⟩:∃ x,vs[j]?=some x:=zX_ (by have:=hr.len;simp only at this;omega);obtain ⟨c0,c1,c2,c3⟩:=h4.row_cell h5 hx;exact ⟨gg,c,vs,x,hh,hc,hx,c0,c1,c2,c3,hr.ok j _ x (vf_get hj) hx,h4.lt,h4.frozen,fun e=>h3 e.symm⟩
end
theorem MatS.elem2 {B0 g:Nat} {w0 wr:World} {v:Value} {piv:List Nat} {hs:List Mh} {L:List (List Rat)} (m:MatS B0 g w0 wr v piv hs L) {i j:Nat} {q:List Rat} {A:Option Addr} {gg c:Nat} {vs:List Rv} {x:Rv} (hh:hs[i]?=some ⟨A,gg,c,vs⟩) (hq:L[i]?=some q) (hx:vs[j]?=some x) :
    wr.cell? ⟨gg,j*4,none⟩=some (.bool x.b1)∧wr.cell? ⟨gg,j*4+1,none⟩=some (.slice x.A x.n x.c)∧wr.cell? ⟨gg,j*4+2,none⟩=some (.bool x.b2)∧wr.cell? ⟨gg,j*4+3,none⟩=some (.slice x.A2 x.m x.d)∧gg<wr.heap.size∧(∀ o,wr.frozen? ⟨gg,o,none⟩=false):=by
 have hr:=m.own.row i _ q hh hq;have hxl:=(zB_.1 hx).1;obtain ⟨h1,h2,h3,cs,h4,h5⟩:=hr.lies (by have:=hr.len;simp only at this;omega);obtain ⟨c0,c1,c2,c3⟩:=h4.row_cell h5 hx;exact ⟨c0,c1,c2,c3,h4.lt,h4.frozen⟩
structure BoxS (wr:World) (g gd:Nat) (hs:List Mh) (y:Rat) (x:Rv):Prop where
 blk:Blk wr gd 115 #[.bool x.b1,.slice x.A x.n x.c,.bool x.b2,.slice x.A2 x.m x.d]
 val:RtV wr wr.heap.size y x
 far:∀ (i:Nat) (h:Mh),hs[i]?=some h→0<h.vs.length→h.g<gd
theorem BoxS.up {wr w':World} {g gd:Nat} {hs:List Mh} {y:Rat} {x:Rv} (b:BoxS wr g gd hs y x) (hb:Below wr.heap.size wr w'):BoxS w' g gd hs y x:=⟨b.blk.bl hb,b.val.up hb,b.far⟩
theorem BoxS.put {B0 g g2 gd:Nat} {w0 wr:World} {v:Value} {piv:List Nat} {hs:List Mh} {L:List (List Rat)} {z:Rat} {x u:Rv} (b:BoxS wr g2 gd hs z u) (m:MatS B0 g w0 wr v piv hs L) {i j:Nat} {h:Mh} {q:List Rat} (hh:hs[i]?=some h) (hq:L[i]?=some q) (hj:j<q.length):BoxS (putV wr h.g j x) g2 gd (hs.set i ⟨h.A,h.g,h.c,h.vs.set j x⟩) z u:=by
 have hr:=m.own.row i h q hh hq;obtain ⟨h1,h2,h3,cs,h4,h5⟩:=hr.lies (by omega);obtain ⟨y,hy⟩:∃ y,h.vs[j]?=some y:=zX_ (by rw [hr.len];exact hj);have hlt:=b.far i h hh (by rw [hr.len];omega);refine ⟨b.blk.far4 x (by omega),RtV.keep4 b.val x h4 h5 hy,fun k h' hk l=>?_⟩;rw [List.getElem?_set] at hk
 by_cases hik:i=k
 ·subst hik
  rw [if_pos rfl,if_pos (zB_.1 hh).1] at hk;injection hk with hk;subst hk;exact hlt
 ·rw [if_neg hik] at hk
  exact b.far k h' hk l
structure RedS (M:List (List Rat)) (N b cols k:Nat) (L:List (List Rat)) (piv:List Nat):Prop where
 ok:RedOk M L N piv k
 bd:Bd (4^k*b) L
 go:redGo (cols-k) L piv k=redR M cols
theorem info_intH:(Tryz.prog.info? 3).map (fun i=>(i.zero,i.size,i.bytes))=some (some (.int .i64 0),1,8):=by kernel_rfl
theorem zi_I:∀ u∈(Value.int .i64 0).cells.toList,IsI u:=fun u hu=>by
 have hu':u∈[Value.int .i64 0]:=hu;rw [List.mem_singleton] at hu';exact ⟨0,hu'⟩
theorem reduce_m (A:Option Addr) (n c cols N b:Nat) (M:List (List Rat)) (w:World) (hR:RdM w w.heap.size A n M) (hn:n≤1000000) (hw:∀ a∈M,a.length=N) (hN:N≤1000000) (hc:cols≤N) (hb:Bd b M) (hsz:4^cols*b≤4000000000000) :
    Calls Tryz.prog 124 #[.slice A n c,.int .i64 (cols:Int)] w (RedP M cols w):=by
 have HL:=lH hR.len;have HW:=lH hw;have HSZ:=lH hsz;have HBD:=lH hb;have HCP:=lH (copy_m A n c M w hR hn (fun a ha=>by rw [hw a ha];exact hN));obtain ⟨i0,hi0,hz0,hz1,hz2⟩:=info_parts info_intH;have HI0:=lH hi0;have HI1:=lH hz0;have HI2:=lH hz1;have HI3:=lH hz2;clear hR hw hb hsz hi0 hz0 hz1 hz2;go_enter Tryz.func124,Tryz.ntmps124
 go_wp2_with fail
 refine HCP.o.mono ?_;clear HCP;rintro e w1 ⟨hb1,g,hs,rfl,ho⟩;have HB1:=lH hb1;have HO1:=lH ho;clear hb1 ho;rw [HL.o];generalize hB0:w.heap.size=B0 at *;have HB0:=lH hB0;clear hB0;have HS0:Hid (RedS M N b cols 0 M []):=lH ⟨redOk_start HW.o,by simpa using HBD.o,rfl⟩;have HM0:Hid (MatS B0 g w w1 (.slice none 0 0) [] hs M):=lH ⟨HO1.o,ownS_none _ _ _ _ _,HB1.o⟩;clear HB1 HO1
 go_wp2_with fail
 go_loopw [6,7] (fun v6 v7 wr=>∃ (k:Nat) (L:List (List Rat)) (piv:List Nat) (hs:List Mh),k≤cols∧v7=.int .i64 k∧RedS M N b cols k L piv∧MatS B0 g w wr v6 piv hs L) (fun _ v7 _=>cols-(intOf v7).toNat)
 case atStart=>exact ⟨0,M,[],hs,Nat.zero_le _,rfl,HS0.o,HM0.o⟩
 case round=>
  clear HS0 HM0 hs;obtain ⟨k,L,piv,hs,hk,rfl,hst,hma⟩:=hrel;have HST:=lH hst;have HMA:=lH hma;have HLL:Hid (L.length=n):=lH (hst.ok.len.trans HL.o);obtain ⟨pA,pc,hv,hpc,hpm⟩:=hma.pv.shape;subst hv;clear hst hma;have HN1:=lN k;have HBK:Hid (4^k*b≤4000000000000):=lH (zI_ (pow4_le hk b) HSZ.o)
  by_cases hlt:k<cols
  ·have hkI:(k:Int)<(cols:Int):=by omega
   have HN2:Hid (cols-(k+1)<cols-k):=lH (by omega)
   by_cases hpl:piv.length<n
   ·generalize hr:piv.length=r at *
    have HPR:=lH hr;clear hr;have hrI:(r:Int)<(n:Int):=by omega
    go_wp2_with fail
    go_loopw [9] (fun v9 wr=>∃ p:Nat,r≤p∧p≤n∧v9=.int .i64 p∧(∀ (i:Nat) (b:List Rat),L[i]?=some b→r≤i→i<p→vf b k=0)∧MatS B0 g w wr (.slice pA r pc) piv hs L) (fun v9 _=>n-(intOf v9).toNat)
    case atStart=>exact ⟨r,lR,by omega,rfl,fun i b _ h1 h2=>by omega,HMA.o⟩
    case round=>
     clear HMA;obtain ⟨p,hrp,hpn,rfl,hz,hma⟩:=hrel;have HMA:=lH hma;have HZ:=lH hz;clear hma hz
     by_cases hp:p<n
     ·obtain ⟨q,hq⟩:∃ q,L[p]?=some q:=zX_ (by have:=HLL.o;omega)
      have HQL:Hid (q.length=N):=lH (HST.o.ok.wid q (zC_ hq));obtain ⟨gg,cc,vs,x,hh,c,hx,c0,c1,c2,c3,hv,l1,f1,hne⟩:=HMA.o.elem (j:=k) hq (by have:=HQL.o;omega);have HQ:=lH hq;have HH:=lH hh;have HX:=lH hx;have HV:=lH hv;have hpI:(p:Int)<(n:Int):=by omega
      rw [HQL.o] at c;have hkN:(k:Int)<(N:Int):=by omega
      clear hq hh hx hv
      by_cases h0:vf q k=0
      ·have HN3:=lN p
       have HN4:Hid (n-(p+1)<n-p):=lH (by omega);have HZ1:Hid (∀ (i:Nat) (b:List Rat),L[i]?=some b→r≤i→i<p+1→vf b k=0):=lH fun i b h1 h2 h3=>by
        by_cases h4:i=p
        ·subst h4
         have h5:=HQ.o;rw [h1] at h5;injection h5 with h5;subst h5;exact h0
        ·exact HZ.o i b h1 h2 (by omega)
       go_wp2_with fail
       refine (signV HV.o).mono ?_;rw [h0];rintro e w5 ⟨rfl,hb5⟩;have HM5:=lH (HMA.o.up hb5);clear hb5 c c0 c1 c2 c3 l1 f1 HMA h0
       go_wp2_with fail
       go_roundw
       case rel=>exact ⟨p+1,by omega,hp,val_int HN3.o,HZ1.o,HM5.o⟩
       case measure=>exact HN4.o
      ·have HSG:Hid ((vf q k).num.sign≠0):=lH (fun h=>h0 (by
        have:=Int.sign_eq_zero_iff_zero.1 h;exact Rat.num_eq_zero.1 this))
       have HPV:Hid (pivR L r k=p):=lH (pivR_at hrp HQ.o h0 HZ.o);have HNZ:Hid (vf q k≠0):=lH h0;clear h0
       go_wp2_with fail
       refine (signV HV.o).mono ?_;generalize (vf q k).num.sign=sg at *;rintro e w5 ⟨rfl,hb5⟩;have HM5:=lH (HMA.o.up hb5);have hsg:(sg == 0)=false:=by have:=HSG.o;simp [this]
       have hpb:((p:Int) == (n:Int))=false:=by simp;omega
       clear hb5 c c0 c1 c2 c3 l1 f1 HMA HZ hne
       go_wp2_with fail
       obtain ⟨qr,hqr⟩:∃ qr,L[r]?=some qr:=zX_ (by have:=HLL.o;omega);have HRL:Hid (qr.length=N):=lH (HST.o.ok.wid qr (zC_ hqr));obtain ⟨⟨rA,rg,rc,rvv⟩,hhr,c1,-⟩:=HM5.o.own.get hqr;obtain ⟨_,hhp,c2,-⟩:=HM5.o.own.get HQ.o;rw [HH.o] at hhp;injection hhp with hhp;subst hhp;have hsw:=HM5.o.swap hhr HH.o hqr HQ.o;rw [HRL.o,HQL.o] at hsw;rw [HRL.o] at c1;rw [HQL.o] at c2;simp only at c1 c2 hsw;have HQR:=lH hqr;have HHR:=lH hhr;have HSW:=lH hsw;have gl:=HM5.o.own.top.lt;have gf:=HM5.o.own.top.frozen;obtain ⟨uu,c3⟩:∃ uu,(w5.setCell ⟨g,r,none⟩ (.slice (some ⟨gg,0,none⟩) N cc)).cell? ⟨g,p,none⟩=some uu:=by
        rw [(HM5.o.own.top.set_ r _).cell];exact ⟨_,Array.getElem?_eq_getElem (by simp;rw [HM5.o.own.len,HLL.o];exact hp)⟩
       clear hqr hhr hsw
       go_region
       clear c1 c2 c3 gl gf;generalize (w5.setCell ⟨g,r,none⟩ (.slice (some ⟨gg,0,none⟩) N cc)).setCell ⟨g,p,none⟩ (.slice rA N rc)=w6 at *;have HSL:Hid ((((L.set r q).set p qr).set r (divR (vf q k) q))=preStep L r p k):=lH (swap_pre HQR.o HQ.o);have HSR:Hid (((L.set r q).set p qr)[r]?=some q):=lH (swap_r HQR.o HQ.o);have HL1:Hid (((L.set r q).set p qr).length=n):=lH (by rw [zU_,zU_,HLL.o]);clear HHR HH HX HM5 HV;generalize (L.set r q).set p qr=L1 at *;generalize (hs.set r _).set p _=hs1 at *;obtain ⟨gg,cc,vs,x,hh,c,hx,c0,c1,c2,c3,hv,l1,f1,hne⟩:=HSW.o.elem (j:=k) HSR.o (by have:=HQL.o;omega);have HV:=lH hv;have gl:=HSW.o.own.top.lt;have gf:=HSW.o.own.top.frozen;rw [HQL.o] at c;clear hh hx hv
       go_upto_region 14 with fail
       clear c0 c1 c2 c3 gl gf l1 f1 hne;have hb7:Below w6.heap.size w6 (w6.alloc (.cells #[.bool x.b1,.slice x.A x.n x.c,.bool x.b2,.slice x.A2 x.m x.d] 115)).drew:=below_drew (bA);have HBX:Hid (BoxS (w6.alloc (.cells #[.bool x.b1,.slice x.A x.n x.c,.bool x.b2,.slice x.A2 x.m x.d] 115)).drew g w6.heap.size hs1 (vf q k) x):=lH ⟨(Blk.new w6 _ _).drew,HV.o.up hb7,fun i h hh l=>HSW.o.own.lt hh l⟩;have HM7:Hid (MatS B0 g w (w6.alloc (.cells #[.bool x.b1,.slice x.A x.n x.c,.bool x.b2,.slice x.A2 x.m x.d] 115)).drew (.slice pA r pc) piv hs1 (L1.set r (divP (vf q k) k k q))):=lH (by rw [divP_start,set_same HSR.o];exact HSW.o.up hb7);clear hb7 HSW HV;generalize (w6.alloc (.cells #[.bool x.b1,.slice x.A x.n x.c,.bool x.b2,.slice x.A2 x.m x.d] 115)).drew=w7 at *;generalize w6.heap.size=gd at *
       go_loopw [11] (fun v11 wr=>∃ (j:Nat) (hs:List Mh),k≤j∧j≤N∧v11=.int .i64 j∧MatS B0 g w wr (.slice pA r pc) piv hs (L1.set r (divP (vf q k) k j q))∧BoxS wr g gd hs (vf q k) x) (fun v11 _=>N-(intOf v11).toNat)
       case atStart=>exact ⟨k,hs1,lR,by omega,rfl,HM7.o,HBX.o⟩
       case round=>
        clear HM7 HBX hs1;obtain ⟨j,hs1,hkj,hjN,rfl,hma,hbx⟩:=hrel;have HMA:=lH hma;have HBX:=lH hbx;have HRJ:Hid ((L1.set r (divP (vf q k) k j q))[r]?=some (divP (vf q k) k j q)):=lH (by rw [List.getElem?_set_self (by rw [HL1.o];exact hpl)]);have HDL:Hid ((divP (vf q k) k j q).length=N):=lH (by rw [divP_len,HQL.o]);clear hma hbx
        by_cases hj:j<N
        ·have hjI:(j:Int)<(N:Int):=by omega
         have HN3:=lN j;have HN4:Hid (N-(j+1)<N-j):=lH (by omega);obtain ⟨gg,cc,vs,y,hh,c,hx,c0,c1,c2,c3,hv,l1,f1,hne⟩:=HMA.o.elem (j:=j) HRJ.o (by rw [HDL.o];exact hj);rw [HDL.o] at c;have gl:=HMA.o.own.top.lt;have bl:=HBX.o.blk.lt;have b0:=HBX.o.blk.cell 0;have b1:=HBX.o.blk.cell 1;have b2:=HBX.o.blk.cell 2;have b3:=HBX.o.blk.cell 3;have hvj:vf (divP (vf q k) k j q) j=vf q j:=vf_at (divP_at (vf_get (by rw [HQL.o];exact hj)));rw [hvj] at hv;have HY:=lH hv;have HH:=lH hh;have HX:=lH hx;clear hh hx hv hvj;have HB4:=lH (below_drew (Below.refl wr.heap.size wr))
         go_upto_region 16 with fail
         refine wp_region_last (S:=fun w'=>Below wr.heap.size wr w') 15 _ (by kernel_rfl) (by kernel_rfl) rfl (below_drew bR) (fun hHeld=>?_);simp only [zK_,List.take_zero];refine tkH 0 rfl ?_;refine tkH 1 rfl ?_;refine tkH 2 rfl ?_;refine tkH 3 rfl ?_;refine tkH 4 rfl ?_;refine tkH 5 rfl ?_;refine tkH 6 rfl ?_;refine tkH 7 rfl ?_;refine tkH 8 rfl ?_;refine tkH 9 rfl ?_;refine tkH 10 rfl ?_;refine tkH 11 rfl ?_;refine tkH 12 rfl ?_;refine stepH 13 (by kernel_rfl) rfl (fun K hK=>?_);go_simp;refine (divV (HY.o.up HB4.o) (HBX.o.val.up HB4.o) HNZ.o (by have:=HST.o.bd.vf HQ.o (j:=j) (by rw [HQL.o];exact hj);have:=HST.o.bd.vf HQ.o (j:=k) (by rw [HQL.o];omega);have:=HBK.o;omega)).mono ?_;rintro e w8 ⟨hb8,v8,rfl,h8⟩;have HB8:=lH (HB4.o.tm hb8);have H8:=lH h8;clear hb8 h8;go_simp;refine hK.out _ _ ?_ (fun hHeld=>?_)
         ·exact HB8.o
         clear hK K
         try simp only [Act.put,sA_,sB_,sC_]
         refine tkH 14 rfl ?_;refine wpAnyH_done (by kernel_rfl) ?_ _;refine lastQ_go (by rfl) ?_;clear hHeld;have HM8:=lH (HMA.o.up HB8.o);have HX8:=lH (HBX.o.up HB8.o);clear c c0 c1 c2 c3 l1 f1 hne gl bl b0 b1 b2 b3 HMA HBX;obtain ⟨c0,c1,c2,c3,l1,f1⟩:=HM8.o.elem2 HH.o HRJ.o HX.o
         go_wp2_with fail
         go_roundw
         case rel=>exact ⟨j+1,_,by omega,hj,val_int HN3.o,by
          have h:=HM8.o.put HH.o HRJ.o (by rw [HDL.o];exact hj) H8.o;rw [List.set_set,divP_step hkj (vf_get (by rw [HQL.o];exact hj))] at h;exact h,HX8.o.put HM8.o HH.o HRJ.o (by rw [HDL.o];exact hj)⟩
         case measure=>exact HN4.o
        ·have hjN2:j=N:=by omega
         subst hjN2;have hjI:¬(j:Int)<(j:Int):=by omega
         have HM8:Hid (MatS B0 g w wr (.slice pA r pc) piv hs1 (rowsP (preStep L r p k) (divR (vf q k) q) r k 0)):=lH (by
          rw [rowsP_start];have h:=HMA.o;rw [show divP (vf q k) k j q=divR (vf q k) q from by
           have:=divP_end (d:=vf q k) (piv_zero HST.o.ok.ech HQ.o (by rw [HPR.o];exact hrp));rw [HQL.o] at this;exact this,HSL.o] at h
          exact h)
         obtain ⟨ra,hra,c,-⟩:=HMA.o.own.get HRJ.o;rw [HDL.o] at c;have gl:=HMA.o.own.top.lt
         go_wp2_with fail
         clear c gl hra HMA HBX HRJ HDL hjI;have HRL:Hid ((divR (vf q k) q).length=j):=lH (by rw [divR_len,HQL.o]);have HRZ:Hid (∀ t,t<k→vf (divR (vf q k) q) t=0):=lH fun t ht=>div_zero (piv_zero HST.o.ok.ech HQ.o (by rw [HPR.o];exact hrp) t ht) (by rw [HQL.o];omega);have HP2:Hid ((preStep L r p k)[r]?=some (divR (vf q k) q)):=lH (pre_r HQR.o HQ.o);have HPW:Hid (∀ a∈preStep L r p k,a.length=j):=lH (pre_width HST.o.ok.wid HQR.o HQ.o);have HPL:Hid ((preStep L r p k).length=n):=lH (by rw [preStep_len,HLL.o]);have HPE:Hid (rowsP (preStep L r p k) (divR (vf q k) q) r k n=colStep L r p k):=lH (by rw [←HLL.o];exact rowsP_end HQ.o);have HPB:Hid (∀ (i t:Nat) (a:List Rat),i≠r→(preStep L r p k)[i]?=some a→t<j→qsz (vf a t)+1≤4000000000000):=lH fun i t a hir ha ht=>by
          obtain ⟨s,hs,_⟩:=pre_src HQR.o HQ.o hir ha;have:=HST.o.bd.vf hs (j:=t) (by rw [HST.o.ok.wid a (zC_ hs)];exact ht);have:=HBK.o;omega
         have HPD:Hid (∀ t,t<j→qsz (vf (divR (vf q k) q) t)+2≤8000000000000):=lH fun t ht=>by
          have:=div_bd HST.o.bd HQ.o (by rw [HQL.o];omega) _ (zC_ (vf_get (l:=divR (vf q k) q) (i:=t) (by rw [HRL.o];exact ht)));have:=HBK.o;omega
         generalize preStep L r p k=M2 at *;generalize divR (vf q k) q=R at *;generalize wr=wz at *
         go_loopw [101] (fun v101 wr=>∃ (i:Nat) (hs:List Mh),i≤n∧v101=.int .i64 i∧MatS B0 g w wr (.slice pA r pc) piv hs (rowsP M2 R r k i)) (fun v101 _=>n-(intOf v101).toNat)
         case atStart=>exact ⟨0,hs1,Nat.zero_le _,rfl,HM8.o⟩
         case round=>
          clear HM8 hs1;obtain ⟨i,hs1,hin,rfl,hma⟩:=hrel;have HMA:=lH hma;clear hma
          by_cases hi:i<n
          ·have hiI:(i:Int)<(n:Int):=by omega
           have HN3:=lN i;have HN4:Hid (n-(i+1)<n-i):=lH (by omega)
           by_cases hir:i=r
           ·subst hir
            go_wp2_with fail
            go_roundw
            case rel=>exact ⟨i+1,hs1,hi,val_int HN3.o,by rw [rowsP_self];exact HMA.o⟩
            case measure=>exact HN4.o
           ·have hib:((i:Int) == (r:Int))=false:=by simp;omega
            obtain ⟨row,hrow⟩:∃ row,M2[i]?=some row:=zX_ (by rw [HPL.o];exact hi);have HRW:=lH hrow;have HRWL:Hid (row.length=j):=lH (HPW.o row (zC_ hrow));obtain ⟨gg,cc,vs,y,hh,c,hx,c0,c1,c2,c3,hv,l1,f1,hne⟩:=HMA.o.elem (j:=k) (rowsP_at hrow) (by rw [HRWL.o];omega);rw [HRWL.o] at c;have HV:=lH hv;have gl:=HMA.o.own.top.lt;clear hh hx hv hrow
            by_cases h0:vf row k=0
            ·have HSK:Hid (rowsP M2 R r k (i+1)=rowsP M2 R r k i):=lH (rowsP_skip (by rw [HRL.o,HRWL.o]) HRW.o h0)
             go_wp2_with fail
             refine (signV HV.o).mono ?_;rw [h0];rintro e w9 ⟨rfl,hb9⟩;have HM9:=lH (HMA.o.up hb9);clear hb9 c c0 c1 c2 c3 l1 f1 hne gl HMA h0
             go_wp2_with fail
             go_roundw
             case rel=>exact ⟨i+1,hs1,hi,val_int HN3.o,by rw [HSK.o];exact HM9.o⟩
             case measure=>exact HN4.o
            ·have HSG:Hid ((vf row k).num.sign≠0):=lH (fun h=>h0 (by
              have:=Int.sign_eq_zero_iff_zero.1 h;exact Rat.num_eq_zero.1 this))
             clear h0
             go_wp2_with fail
             refine (signV HV.o).mono ?_;generalize (vf row k).num.sign=sg at *;rintro e w9 ⟨rfl,hb9⟩;have HM9:=lH (HMA.o.up hb9);have hsg:(sg == 0)=false:=by have:=HSG.o;simp [this]
             clear hb9 c c0 c1 c2 c3 l1 f1 hne gl HMA HV;obtain ⟨gg,cc,vs,y,hh,c,hx,c0,c1,c2,c3,hv,l1,f1,hne⟩:=HM9.o.elem (j:=k) (rowsP_at HRW.o) (by rw [HRWL.o];omega);rw [HRWL.o] at c;have HV:=lH hv;have gl:=HM9.o.own.top.lt;clear hh hx hv
             go_upto_region 23 with fail
             clear c c0 c1 c2 c3 l1 f1 hne gl;have hb7:Below w9.heap.size w9 (w9.alloc (.cells #[.bool y.b1,.slice y.A y.n y.c,.bool y.b2,.slice y.A2 y.m y.d] 115)):=bA;have HBX:Hid (BoxS (w9.alloc (.cells #[.bool y.b1,.slice y.A y.n y.c,.bool y.b2,.slice y.A2 y.m y.d] 115)) g w9.heap.size hs1 (vf row k) y):=lH ⟨Blk.new w9 _ _,HV.o.up hb7,fun i h hh l=>HM9.o.own.lt hh l⟩;have HM7:Hid (MatS B0 g w (w9.alloc (.cells #[.bool y.b1,.slice y.A y.n y.c,.bool y.b2,.slice y.A2 y.m y.d] 115)) (.slice pA r pc) piv hs1 ((rowsP M2 R r k i).set i (subP (vf row k) R k k row))):=lH (by rw [subP_start,set_same (rowsP_at HRW.o)];exact HM9.o.up hb7);have HXR:Hid ((rowsP M2 R r k i)[r]?=some R):=lH (rowsP_r HP2.o);have HXE:Hid ((rowsP M2 R r k i).set i (subR (vf row k) R row)=rowsP M2 R r k (i+1)):=lH (rowsP_step hir HRW.o)
             have HXL:Hid ((rowsP M2 R r k i).length=n):=lH (by rw [rowsP_len,HPL.o]);clear hb7 HM9 HV;generalize rowsP M2 R r k i=X at *;generalize w9.alloc (.cells #[.bool y.b1,.slice y.A y.n y.c,.bool y.b2,.slice y.A2 y.m y.d] 115)=w10 at *;generalize w9.heap.size=gf at *;generalize wr=wy at *
             go_loopw [14] (fun v14 wr=>∃ (t:Nat) (hs:List Mh),k≤t∧t≤j∧v14=.int .i64 t∧MatS B0 g w wr (.slice pA r pc) piv hs (X.set i (subP (vf row k) R k t row))∧BoxS wr g gf hs (vf row k) y) (fun v14 _=>j-(intOf v14).toNat)
             case atStart=>exact ⟨k,hs1,lR,by omega,rfl,HM7.o,HBX.o⟩
             case round=>
              clear HM7 HBX hs1;obtain ⟨t,hs1,hkt,htj,rfl,hma,hbx⟩:=hrel;have HMA:=lH hma;have HBX:=lH hbx;have HTI:Hid ((X.set i (subP (vf row k) R k t row))[i]?=some (subP (vf row k) R k t row)):=lH (by rw [List.getElem?_set_self (by rw [HXL.o];exact hi)]);have HTR:Hid ((X.set i (subP (vf row k) R k t row))[r]?=some R):=lH (by rw [List.getElem?_set_ne hir];exact HXR.o);have HTL:Hid ((subP (vf row k) R k t row).length=j):=lH (by rw [subP_len,HRWL.o]);clear hma hbx
              by_cases ht:t<j
              ·have htI:(t:Int)<(j:Int):=by omega
               have HN5:=lN t;have HN6:Hid (j-(t+1)<j-t):=lH (by omega);have HTV:Hid (vf (subP (vf row k) R k t row) t=vf row t):=lH (vf_at (subP_at (vf_get (by rw [HRWL.o];exact ht))));obtain ⟨g2,cc2,vs2,z2,hh2,e0,hx2,e1,e2,e3,e4,hv2,l2,f2,hne2⟩:=HMA.o.elem (j:=t) HTI.o (by rw [HTL.o];exact ht);obtain ⟨g3,cc3,vs3,z3,hh3,d0,hx3,d1,d2,d3,d4,hv3,l3,f3,hne3⟩:=HMA.o.elem (j:=t) HTR.o (by rw [HRL.o];exact ht);rw [HTL.o] at e0;rw [HRL.o] at d0;have HV3:=lH hv3;have HH2:=lH hh2;have HX2:=lH hx2;have HH3:=lH hh3;have HX3:=lH hx3;have gl:=HMA.o.own.top.lt;clear hh2 hx2 hv2 hh3 hx3 hv3
               by_cases h0:vf R t=0
               ·have HSK:Hid (subP (vf row k) R k (t+1) row=subP (vf row k) R k t row):=lH (subP_skip h0)
                go_wp2_with fail
                refine (signV HV3.o).mono ?_;rw [h0];rintro e w11 ⟨rfl,hb11⟩;have HM11:=lH (HMA.o.up hb11);have HX11:=lH (HBX.o.up hb11);clear hb11 e0 e1 e2 e3 e4 l2 f2 hne2 d0 d1 d2 d3 d4 l3 f3 hne3 gl HMA HBX h0
                go_wp2_with fail
                go_roundw
                case rel=>exact ⟨t+1,hs1,by omega,ht,val_int HN5.o,by rw [HSK.o];exact HM11.o,HX11.o⟩
                case measure=>exact HN6.o
               ·have HSG:Hid ((vf R t).num.sign≠0):=lH (fun h=>h0 (by
                 have:=Int.sign_eq_zero_iff_zero.1 h;exact Rat.num_eq_zero.1 this))
                clear h0
                go_wp2_with fail
                refine (signV HV3.o).mono ?_;generalize (vf R t).num.sign=sg2 at *;rintro e w11 ⟨rfl,hb11⟩;have HM11:=lH (HMA.o.up hb11);have HX11:=lH (HBX.o.up hb11);have hsg2:(sg2 != 0)=true:=by have:=HSG.o;simp [this]
                clear hb11 e0 e1 e2 e3 e4 l2 f2 hne2 d0 d1 d2 d3 d4 l3 f3 hne3 gl HMA HBX HV3 HH2 HX2 HH3 HX3;obtain ⟨g2,cc2,vs2,z2,hh2,e0,hx2,e1,e2,e3,e4,hv2,l2,f2,hne2⟩:=HM11.o.elem (j:=t) HTI.o (by rw [HTL.o];exact ht);obtain ⟨g3,cc3,vs3,z3,hh3,d0,hx3,d1,d2,d3,d4,hv3,l3,f3,hne3⟩:=HM11.o.elem (j:=t) HTR.o (by rw [HRL.o];exact ht);rw [HTL.o] at e0;rw [HRL.o] at d0;rw [HTV.o] at hv2;have HV2:=lH hv2;have HV3:=lH hv3;have HH2:=lH hh2;have HX2:=lH hx2;have gl:=HM11.o.own.top.lt;have bl:=HX11.o.blk.lt;have b0:=HX11.o.blk.cell 0;have b1:=HX11.o.blk.cell 1;have b2:=HX11.o.blk.cell 2;have b3:=HX11.o.blk.cell 3;have HB4:=lH (below_drew (Below.refl w11.heap.size w11));have HZ1:Hid (qsz (vf row k)+1≤4000000000000):=lH (HPB.o i k row hir HRW.o (by omega));have HZ2:Hid (qsz (vf row t)+1≤4000000000000):=lH (HPB.o i t row hir HRW.o ht);have HZ3:Hid (qsz (vf R t)+2≤8000000000000):=lH (HPD.o t ht)
                clear hh2 hx2 hv2 hh3 hx3 hv3
                go_upto_region 26 with fail
                refine wp_region_last (S:=fun w'=>Below w11.heap.size w11 w') 23 _ (by kernel_rfl) (by kernel_rfl) rfl (below_drew bR) (fun hHeld=>?_);simp only [zK_,List.take_zero];refine tkH 0 rfl ?_;refine tkH 1 rfl ?_;refine tkH 2 rfl ?_;refine tkH 3 rfl ?_;refine tkH 4 rfl ?_;refine tkH 5 rfl ?_;refine tkH 6 rfl ?_;refine tkH 7 rfl ?_;refine tkH 8 rfl ?_;refine tkH 9 rfl ?_;refine tkH 10 rfl ?_;refine tkH 11 rfl ?_;refine tkH 12 rfl ?_;refine tkH 13 rfl ?_;refine tkH 14 rfl ?_;refine tkH 15 rfl ?_;refine tkH 16 rfl ?_;refine tkH 17 rfl ?_;refine tkH 18 rfl ?_;refine tkH 19 rfl ?_;refine stepH 20 (by kernel_rfl) rfl (fun K hK=>?_);go_simp;refine (mulV (HX11.o.val.up HB4.o) (HV3.o.up HB4.o) (by have:=HZ1.o;have:=HZ3.o;omega)).mono ?_;rintro e w12 ⟨hb12,v12,rfl,h12⟩;have HB12:=lH (HB4.o.tm hb12);have H12:=lH h12;clear hb12 h12;go_simp
                refine hK.out _ _ ?_ (fun hHeld=>?_)
                ·exact HB12.o
                clear hK K
                try simp only [Act.put,sA_,sB_,sC_]
                refine stepH 21 (by kernel_rfl) rfl (fun K hK=>?_);go_simp;refine (subV (HV2.o.up HB12.o) H12.o (by have:=HZ1.o;have:=HZ3.o;have:=HZ2.o;have:=mul_qsz (vf row k) (vf R t);omega)).mono ?_;rintro e w13 ⟨hb13,v13,rfl,h13⟩;have HB13:=lH (HB12.o.tm hb13);have H13:=lH h13;clear hb13 h13;go_simp;refine hK.out _ _ ?_ (fun hHeld=>?_)
                ·exact HB13.o
                clear hK K
                try simp only [Act.put,sA_,sB_,sC_]
                refine tkH 22 rfl ?_;refine wpAnyH_done (by kernel_rfl) ?_ _;refine lastQ_go (by rfl) ?_;clear hHeld;have HM13:=lH (HM11.o.up HB13.o);have HX13:=lH (HX11.o.up HB13.o);clear e0 e1 e2 e3 e4 l2 f2 hne2 d0 d1 d2 d3 d4 l3 f3 hne3 gl bl b0 b1 b2 b3 HM11 HX11 HB4 HB12 HB13 HV2 HV3 H12;obtain ⟨e1,e2,e3,e4,l2,f2⟩:=HM13.o.elem2 HH2.o HTI.o HX2.o
                go_wp2_with fail
                go_roundw
                case rel=>exact ⟨t+1,_,by omega,ht,val_int HN5.o,by
                 have h:=HM13.o.put HH2.o HTI.o (by rw [HTL.o];exact ht) H13.o;rw [List.set_set,subP_step hkt (vf_get (by rw [HRWL.o];exact ht))] at h;exact h,HX13.o.put HM13.o HH2.o HTI.o (by rw [HTL.o];exact ht)⟩
                case measure=>exact HN6.o
              ·have htj2:t=j:=by omega
               subst htj2;have htI:¬(t:Int)<(t:Int):=by omega
               have HM11:Hid (MatS B0 g w wr (.slice pA r pc) piv hs1 (rowsP M2 R r k (i+1))):=lH (by
                have h:=HMA.o;rw [show subP (vf row k) R k t row=subR (vf row k) R row from by
                 have:=subP_end (f:=vf row k) (R:=R) (row:=row) (by rw [HRL.o,HRWL.o]) HRZ.o;rw [HRWL.o] at this;exact this,HXE.o] at h
                exact h)
               obtain ⟨ra2,hra,c,-⟩:=HMA.o.own.get HTI.o;rw [HTL.o] at c;have gl:=HMA.o.own.top.lt;clear hra
               go_wp2_with fail
               go_roundw
               case rel=>exact ⟨i+1,hs1,hi,val_int HN3.o,HM11.o⟩
               case measure=>exact HN4.o
          ·have hin2:i=n:=by omega
           subst hin2;have hiI:¬(i:Int)<(i:Int):=by omega
           have HM8:Hid (MatS B0 g w wr (.slice pA r pc) piv hs1 (colStep L r p k)):=lH (by rw [←HPE.o];exact HMA.o);have HS1:Hid (RedS M j b cols (k+1) (colStep L r p k) (piv++[k])):=lH (by
            have hne:pivR L piv.length k≠L.length:=by rw [HPR.o,HPV.o,HLL.o];omega
            have hpl2:piv.length<L.length:=by rw [HPR.o,HLL.o];exact hpl
            have h1:=HST.o.ok.step (by omega) hpl2 hne;rw [HPR.o,HPV.o] at h1;refine ⟨h1,?_,?_⟩
            ·rw [Nat.pow_succ,Nat.mul_comm (4^k) 4,Nat.mul_assoc]
             exact col_bd HST.o.bd HST.o.ok.wid HQR.o HQ.o (by omega)
            ·have h:=HST.o.go
             rw [show cols-k=(cols-(k+1))+1 from by omega,redGo_some (p:=p) hpl2 (by rw [HPR.o];exact HPV.o) (by rw [HLL.o];omega),HPR.o] at h;exact h)
           have HPO:Hid (OwnS IsI wr B0 3 1 (.slice pA r pc) r (natI piv)):=lH (by have h:=HM8.o.pv;rw [HPR.o] at h;exact h);have hgl:=HM8.o.le;clear HMA
           go_upto_region 28 with fail
           go_wp2_with (at_builtin;refine wpList_appS (S:=IsI) rfl (.tmp 168) (.tmp 170) _ rfl B0 3 i0 _ 1 8 Tryz.underlying30 HI0.o HI1.o HI2.o HI3.o rfl (by omega) zi_I (.slice pA r pc) r (natI piv) rfl HPO.o rfl rfl ?k1 ?k2 ?k3 hgl ?_)
           case k1=>simp [Value.oneCell',IsI]
           case k2=>simp only [maxLen];omega
           case k3=>omega
           intro v' w9 hown hk9 hblk;have HM9:Hid (MatS B0 g w w9 v' (piv++[k]) hs1 (colStep L r p k)):=lH (by
            have hb9:Below wr.heap.size wr (wr.alloc (.cells #[.int .i64 (k:Int)] 3)):=bA;refine ⟨(HM8.o.own.up hb9).keepsI hk9,?_,(HM8.o.low.trans (hb9.mono hgl)).trans hk9.low⟩;rw [zE_,List.length_singleton,HPR.o];unfold natI;rw [List.map_append];exact hown)
           clear hown hk9 hblk HM8 HPO hgl
           go_wp2_with fail
           go_roundw
           case rel=>exact ⟨k+1,_,_,hs1,hlt,val_int HN1.o,HS1.o,HM9.o⟩
           case measure=>exact HN2.o
     ·have hpn2:p=n:=by omega
      subst hpn2;have hpI:¬(p:Int)<(p:Int):=by omega
      have HPV:Hid (pivR L piv.length k=L.length):=lH (pivR_end (by rw [HLL.o,HPR.o];exact hrp) (fun i b h1 h2=>HZ.o i b h1 (by rw [←HPR.o];exact h2) (by rw [←HLL.o];exact (zB_.1 h1).1)));have HS1:Hid (RedS M N b cols (k+1) L piv):=lH ⟨HST.o.ok.skip HPV.o,HST.o.bd.mono (pow4_le (Nat.le_succ k) b),by
       have h:=HST.o.go;rw [show cols-k=(cols-(k+1))+1 from by omega,redGo_none (by rw [HLL.o,HPR.o];exact hpl) HPV.o] at h;exact h⟩
      go_wp2_with fail
      go_roundw
      case rel=>exact ⟨k+1,L,piv,hs,hlt,val_int HN1.o,HS1.o,HMA.o⟩
      case measure=>exact HN2.o
   ·have hrI:¬(piv.length:Int)<(n:Int):=by omega
    have HFIN:Hid (redR M cols=(L,piv)):=lH (by rw [←HST.o.go];exact redGo_full (by rw [HLL.o];exact hpl));generalize hr:piv.length=r at *;have HPR:=lH hr;clear hr
    go_wp2_with fail
    go_ret2;refine ⟨by rw [HB0.o];exact HMA.o.low,g,hs,.slice pA r pc,by rw [HL.o];rfl,?_,?_⟩
    ·rw [HFIN.o,HB0.o];exact HMA.o.own
    ·rw [HFIN.o,HB0.o];exact HMA.o.pv
  ·have hkI:¬(k:Int)<(cols:Int):=by omega
   have HFIN:Hid (redR M cols=(L,piv)):=lH (by
    rw [←HST.o.go,show cols-k=0 from by omega];rfl)
   generalize hr:piv.length=r at *;have HPR:=lH hr;clear hr
   go_wp2_with fail
   go_ret2;refine ⟨by rw [HB0.o];exact HMA.o.low,g,hs,.slice pA r pc,by rw [HL.o];rfl,?_,?_⟩
   ·rw [HFIN.o,HB0.o];exact HMA.o.own
   ·rw [HFIN.o,HB0.o];exact HMA.o.pv
structure RkOk (M:List (List Rat)) (N b:Nat):Prop where
 wid:∀ a∈M,a.length=N
 bd:Bd b M
 sz:4^N*b≤4000000000000
 len:M.length≤1000000
 n:N≤1000000
section
variable (P:Program)
theorem run_copy_rowN (w:World) (dT sT ty elem:TypeId) (g o dLen dCap:Nat) (a:Addr) (sLen sCap sz:Nat) (cur:Array Value) (t:TypeId) (cs:List Value)
    (hu:P.underlying dT=some (.slice elem)) (hs:(P.info? elem).map (·.size)=some sz)
    (hg:w.heap[g]?=some (.cells cur t (0,0))) (hn:cs.length=Nat.min sLen dLen*sz)
    (hsrc:∀ j v,cs[j]?=some v→w.cell? (a.add j)=some v) (hfit:o+cs.length≤cur.size) (h1:∀ v∈cs,v.oneCell'=true) :
    (Builtin.copy_ #[dT,sT] ty #[.slice (some ⟨g,o,none⟩) dLen dCap,.slice (some a) sLen sCap]).run P w =
     .ok (goInt (Nat.min sLen dLen)) (w.setRow g (cur.toList.take o++cs++cur.toList.drop (o+cs.length)).toArray):=by
 have hl:=run_loadCells_list (P:=P) w a cs hsrc;have hst:=run_storeCells_at P g o t cs 0 cur w hg (by simpa using hfit) h1;cases hq:P.info? elem with
 | none=>simp [hq] at hs
 | some i=>
  have hi:i.size=sz:=by simpa [hq] using hs
  simp [Builtin.copy_,run_underlying hu,Builtin.lenOf,Builtin.firstCells,sizeOf,typeInfo,hq,hi,←hn,hl,hst]
end
theorem step_copyN {P:Program} {ops:Array Oper} {o:Oper} {a:Act} {w:World} {K:Act→World→Prop} {Q:Exit→Act→World→Prop} {E:Prop} (q:Nat) (hq:o.dst=some q) (hgd:o.guard=none) (d s:Operand) (dT sT:TypeId)
    (ho:o.op=.call { callee:=.builtin .copy,args:=#[d,s],argTypes:=#[dT,sT] }) (elem:TypeId) (sz:Nat) (hu:P.underlying dT=some (.slice elem)) (hsz:(P.info? elem).map (·.size)=some sz)
    (ad:Addr) (dLen dCap sLen sCap g off:Nat) (hd:a.eval d=.slice (some ⟨g,off,none⟩) dLen dCap) (hs:a.eval s=.slice (some ad) sLen sCap)
    (cur:List Value) (t:TypeId) (hg:w.heap[g]?=some (.cells cur.toArray t (0,0))) (cs:List Value) (hn:cs.length=Nat.min sLen dLen*sz)
    (hsrc:∀ j v,cs[j]?=some v→w.cell? (ad.add j)=some v)
    (hfit:off+cs.length≤cur.length) (h1:∀ v∈cs,v.oneCell'=true) (B:Nat) (w0:World) (hb:Below B w0 w) (hBg:B≤g)
    (h:∀ w',Hid (w'.heap[g]?=some (.cells (splice cur off cs).toArray t (0,0)))→Below B w0 w'→K (a.put (some q) (goInt (Nat.min sLen dLen))) w') :
    if Region.wanted o (yielded ops a.tmps)=true then Oper.wp P o a w K Q else E:=by
 have hw:Region.wanted o (yielded ops a.tmps)=true:=by simp [Region.wanted,hgd]
 rw [if_pos hw];have hrun:=run_copy_rowN P w dT sT o.type elem g off dLen dCap ad sLen sCap sz cur.toArray t cs hu hsz hg hn hsrc (by simpa using hfit) h1;unfold Oper.wp;simp only [execOp,ho,resolve,invoke,builtin,Sem.run_bind,Sem.run_pure,Result.andThen_ok,List.map_toArray,List.map_cons,List.map_nil,hd,hs,hrun];have h2:=h (w.setRow g (cur.take off++cs++cur.drop (off+cs.length)).toArray) (show _=_ by simpa [splice] using setRow_heap w g _ _ t _ hg) (below_setRow hb hBg _);rw [←hq] at h2;exact h2
theorem wpList_copyN {P:Program} {w:World} {ops:Array Oper} {rest:List Oper} {o:Oper} {a:Act} {Q:Exit→Act→World→Prop} (hgd:o.guard=none) (d s:Operand) (dT sT:TypeId)
    (ho:o.op=.call { callee:=.builtin .copy,args:=#[d,s],argTypes:=#[dT,sT] }) (elem:TypeId) (sz:Nat) (hu:P.underlying dT=some (.slice elem)) (hsz:(P.info? elem).map (·.size)=some sz)
    (ad:Addr) (dLen dCap sLen sCap g off:Nat) (hd:a.eval d=.slice (some ⟨g,off,none⟩) dLen dCap) (hs:a.eval s=.slice (some ad) sLen sCap)
    (cur:List Value) (t:TypeId) (hg:w.heap[g]?=some (.cells cur.toArray t (0,0))) (cs:List Value) (hn:cs.length=Nat.min sLen dLen*sz)
    (hsrc:∀ j v,cs[j]?=some v→w.cell? (ad.add j)=some v)
    (hfit:off+cs.length≤cur.length) (h1:∀ v∈cs,v.oneCell'=true) (B:Nat) (w0:World) (hb:Below B w0 w) (hBg:B≤g)
    (h:∀ w',Hid (w'.heap[g]?=some (.cells (splice cur off cs).toArray t (0,0)))→Below B w0 w'→wpList P ops Q rest (a.put o.dst (goInt (Nat.min sLen dLen))) w') :
    wpList P ops Q (o::rest) a w:=by
 refine wpList_plain hgd fun K hK=>?_;have hrun:=run_copy_rowN P w dT sT o.type elem g off dLen dCap ad sLen sCap sz cur.toArray t cs hu hsz hg hn hsrc (by simpa using hfit) h1;unfold Oper.wp execOp;simp only [ho,resolve,invoke,builtin,Sem.run_bind,Sem.run_pure,Result.andThen_ok,List.map_toArray,List.map_cons,List.map_nil,hd,hs,hrun];exact hK _ _ (h _ (show _=_ by simpa [splice] using setRow_heap w g _ _ t _ hg) (below_setRow hb hBg _))
theorem size_rat:(Tryz.prog.info? 115).map (·.size)=some 4:=by kernel_rfl
def Head (v:Rv) (k:Nat) (cur:List Value):Prop:=∀ i,i<k*4→cur[i]?=(rvs (List.replicate k v))[i]?
theorem rvs_rep_at (v:Rv) (k i:Nat) (h:i<k*4):(rvs (List.replicate k v))[i]?=v.cells[i % 4]?:=by
 have h1:i / 4<k:=by omega
 have:=rvs_at (vs:=List.replicate k v) (i:=i / 4) (v:=v) (by rw [List.getElem?_replicate,if_pos h1]) (i % 4) (Nat.mod_lt _ (by decide));rwa [show i / 4*4+i % 4=i from by omega] at this
theorem rvs_oneCell (vs:List Rv):∀ u∈rvs vs,u.oneCell'=true:=fun u hu=>(rvs_noI vs u hu).1
theorem rep_splice {v:Rv} {k q n:Nat} {cur:List Value} (hl:cur.length=n*4) (hc:Head v k cur) (hq:k+q≤n):(splice cur (k*4) (rvs (List.replicate q v))).length=n*4∧Head v (k+q) (splice cur (k*4) (rvs (List.replicate q v))):=by
 have hlr:(rvs (List.replicate q v)).length=q*4:=by rw [rvs_len,zO_]
 refine ⟨by unfold splice;simp only [zE_,zF_,zS_,hlr];omega,fun i hi=>?_⟩;unfold splice;rw [rvs_rep_at v _ _ hi]
 by_cases hik:i<k*4
 ·rw [zR_ (by rw [zF_];omega),List.getElem?_take,if_pos hik,hc i hik,rvs_rep_at v _ _ hik]
 ·rw [zN_ (by rw [zF_];omega),zF_,Nat.min_eq_left (by omega),zR_ (by rw [hlr];omega),rvs_rep_at v _ _ (by omega)]
  rw [show (i-k*4) % 4=i % 4 from by omega]
theorem Head.all {v:Rv} {n:Nat} {cur:List Value} (hl:cur.length=n*4) (h:Head v n cur):cur=rvs (List.replicate n v):=by
 apply List.ext_getElem?;intro i
 by_cases hi:i<n*4
 ·exact h i hi
 ·rw [List.getElem?_eq_none (by omega),List.getElem?_eq_none (by rw [rvs_len,zO_];omega)]
theorem repeat_q (v:Rv) (b:Nat) (n:Nat) (w:World) (hv:Blk w b 115 #[.bool v.b1,.slice v.A v.n v.c,.bool v.b2,.slice v.A2 v.m v.d]) (hn:n≤1000) :
    Calls Tryz.prog 139 #[.slice (some ⟨b,0,none⟩) 1 1,.int .i64 n] w fun e w'=>∃ g,e=.returned (.slice (some ⟨g,0,none⟩) n n)∧w.heap.size≤g∧Blk w' g 115 (rvs (List.replicate n v)).toArray∧Below w.heap.size w w':=by
 have hblt:=hv.lt;have hmk:∀ w:World,(Instr.makeSlice 93 (.int .i64 (n:Int)) (.int .i64 (n:Int))).run Tryz.prog w=.ok (.slice (some ⟨w.heap.size,0,none⟩) n n) (w.alloc (.cells (rvs (List.replicate n rv0)).toArray 115)):=fun w=>make_rat n (by omega) w;have HHV:=lH hv;clear hv;go_enter Tryz.func139,Tryz.ntmps139
 go_wp2_with fail
 refine (mul_any 1 n (by omega) (by omega) _).mono ?_;rw [show (1*n / 18446744073709551616:Nat)=0 from by omega,show (1*n % 18446744073709551616:Nat)=n from by omega];rintro e w' ⟨rfl,rfl⟩;have hB0:Below w.heap.size w (w.alloc (.cells (rvs (List.replicate n rv0)).toArray 115)):=bA;have hblk:(w.alloc (.cells (rvs (List.replicate n rv0)).toArray 115)).heap[w.heap.size]?=some (.cells (rvs (List.replicate n rv0)).toArray 115 (0,0)):=heap_alloc_new w _;have HB0:=lH hB0;have HBLK:=lH hblk;have HHV2:=lH (HHV.o.below hB0 hblt);have HSRC:Hid (∀ j u,(rvs (List.replicate (Nat.min 1 n) v))[j]?=some u→(w.alloc (.cells (rvs (List.replicate n rv0)).toArray 115)).cell? ((⟨b,0,none⟩:Addr).add j)=some u):=lH fun j u hu=>by
  have hj:=(zB_.1 hu).1;rw [rvs_len,zO_] at hj;have hm:Nat.min 1 n≤1:=Nat.min_le_left _ _;rw [rvs_rep_at v _ _ (by omega)] at hu;rw [Addr.add_lit,Nat.zero_add,HHV2.o.cell j];have hj4:j % 4=j:=by omega
  rw [hj4] at hu;simpa [Rv.cells] using hu
 have hml:(rvs (List.replicate n rv0)).length=n*4:=by rw [rvs_len,zO_]
 have HML:=lH hml;have hmin:Nat.min 1 n≤n:=Nat.min_le_right _ _;have hmin2:0<n→0<Nat.min 1 n:=fun h=>Nat.lt_min.2 ⟨by decide,h⟩;clear hB0 hblk hml
 go_wp2_with (refine wpList_copyN rfl (.tmp 31) (.tmp 32) 93 93 rfl 115 4 Tryz.underlying93 size_rat ⟨b,0,none⟩ n n 1 1 w.heap.size 0 rfl rfl (rvs (List.replicate n rv0)) 115 HBLK.o (rvs (List.replicate (Nat.min 1 n) v)) (by rw [rvs_len,zO_]) HSRC.o (by rw [rvs_len,zO_,HML.o];omega) (rvs_oneCell _) w.heap.size w HB0.o lR ?_)
 intro w2 hb2 k2;have hk0:=rep_splice (v:=v) (k:=0) (q:=Nat.min 1 n) (n:=n) HML.o (fun i hi=>by omega) (by omega);rw [Nat.zero_mul,Nat.zero_add] at hk0;generalize splice (rvs (List.replicate n rv0)) 0 (rvs (List.replicate (Nat.min 1 n) v))=cur0 at hb2 hk0;have HB2:=lH hb2.out;have HK2:=lH k2;have HK0:=lH hk0;clear hb2 k2 hk0 hmk HSRC;generalize Nat.min 1 n=k0 at *
 go_wp2_with fail
 go_loopw [8] (fun i wr=>∃ k:Nat,k≤n∧i=.int .i64 k∧(0<n→0<k)∧Below w.heap.size w wr∧∃ cur:List Value,cur.length=n*4∧Head v k cur∧Hid (wr.heap[w.heap.size]?=some (.cells cur.toArray 115 (0,0)))) (fun i _=>n-(intOf i).toNat)
 case atStart=>exact ⟨k0,hmin,rfl,hmin2,HK2.o,cur0,HK0.o.1,HK0.o.2,HB2⟩
 case round=>
  obtain ⟨k,hk,rfl,hkp,hbel,cur,hcl,hci,hblk⟩:=hrel;have HCI:=lH hci;have HBL:=lH hbel;have HCL:=lH hcl;clear hci hbel hcl HK2 HB2 HK0
  by_cases hlt:k<n
  ·have hkp':0<k:=hkp (by omega)
   clear hkp;have HSRC3:Hid (∀ j u,(rvs (List.replicate (Nat.min k (n-k)) v))[j]?=some u→wr.drew.cell? ((⟨w.heap.size,0,none⟩:Addr).add j)=some u):=lH fun j u hu=>by
    have hj:=(zB_.1 hu).1;rw [rvs_len,zO_] at hj;have hm:Nat.min k (n-k)≤k:=Nat.min_le_left _ _;rw [rvs_rep_at v _ _ hj,←rvs_rep_at v k _ (by omega),←HCI.o j (by omega)] at hu;have h2:=cell_of_row wr w.heap.size j cur.toArray 115 (0,0) hblk.out;rw [Addr.add_lit,Nat.zero_add];show wr.cell? _=_;rw [h2];simpa using hu
   have hI1:(k:Int)≤(n:Int):=by omega
   have hI2:=lZ k
   have hmk1:Nat.min k (n-k)≤n-k:=Nat.min_le_right _ _;have hmk2:0<Nat.min k (n-k):=Nat.lt_min.2 ⟨hkp',by omega⟩;have hw1:IntKind.i64.wrap ((k:Int)+((Nat.min k (n-k):Nat):Int))=(k:Int)+((Nat.min k (n-k):Nat):Int):=IntWalk.i64_in _ (by omega)
   go_wp2_with fail
   go_region_law (refine step_copyN 45 rfl rfl (.tmp 41) (.tmp 44) 93 93 rfl 115 4 Tryz.underlying93 size_rat ⟨w.heap.size,0,none⟩ (n-k) (n-k) k n w.heap.size (k*4) (by simp [Act.eval,Act.put];omega) (by simp [Act.eval,Act.put]) cur 115 hblk.out (rvs (List.replicate (Nat.min k (n-k)) v)) (by rw [rvs_len,zO_]) HSRC3.o (by rw [rvs_len,zO_,HCL.o];omega) (rvs_oneCell _) w.heap.size w (below_drew HBL.o) lR ?_;intro w3 hb3 k3)
   have hk3:=rep_splice (v:=v) (k:=k) (q:=Nat.min k (n-k)) (n:=n) HCL.o HCI.o (by omega);have HK3:=lH hk3;have HKK3:=lH k3;have HBB3:=lH hb3.out;have hmk4:k+Nat.min k (n-k)≤n:=by omega
   clear hk3 k3 hb3 HSRC3;generalize splice cur (k*4) (rvs (List.replicate (Nat.min k (n-k)) v))=cur3 at *;generalize Nat.min k (n-k)=q at *
   go_wp2_with fail
   go_roundw
   case rel=>exact ⟨k+q,hmk4,by go_num,fun _=>by omega,HKK3.o,cur3,HK3.o.1,HK3.o.2,HBB3⟩
   case measure=>simp [intOf];omega
  ·have hkn:k=n:=by omega
   subst hkn
   go_wp2_with fail
   go_ret;refine ⟨w.heap.size,rfl,lR,?_,HBL.o⟩;have:=hblk.out;rw [HCI.o.all HCL.o] at this;exact this
def ZerP (n:Nat) (w:World) (e:Ending) (w':World):Prop:=Below w.heap.size w w'∧∃ (g:Nat) (v:Rv),e=.returned (.slice (some ⟨g,0,none⟩) n n)∧w.heap.size≤g∧Blk w' g 115 (rvs (List.replicate n v)).toArray∧RtV w' w'.heap.size 0 v
theorem zeros_any (n:Nat) (w:World) (hn:n≤1000):Calls Tryz.prog 106 #[.int .i64 n] w (ZerP n w):=by
 go_enter Tryz.func106,Tryz.ntmps106
 go_wp2_with fail
 refine (wholeV 0 w (by decide) (by decide)).mono ?_;rintro e w1 ⟨hb1,v1,rfl,h1⟩;have HB1:=lH hb1;have H1:Hid (RtV w1 w1.heap.size 0 v1):=lH (by have:=h1;rwa [show (((0:Int)):Rat)=0 from rfl] at this);clear hb1 h1
 go_wp2_with fail
 have hba:Below w1.heap.size w1 (w1.alloc (.cells #[.bool v1.b1,.slice v1.A v1.n v1.c,.bool v1.b2,.slice v1.A2 v1.m v1.d] 115)):=bA;have HBA:=lH (HB1.o.tm hba);replace H1:=lH (H1.o.up hba);have HX:=lH (Blk.new w1 115 #[.bool v1.b1,.slice v1.A v1.n v1.c,.bool v1.b2,.slice v1.A2 v1.m v1.d]);have HG:Hid (w.heap.size≤(w1.alloc (.cells #[.bool v1.b1,.slice v1.A v1.n v1.c,.bool v1.b2,.slice v1.A2 v1.m v1.d] 115)).heap.size):=lH HBA.o.size;clear hba;refine (repeat_q v1 w1.heap.size n _ HX.o hn).mono ?_;rintro e w2 ⟨g,rfl,hg,hbk,hb2⟩;have HB2:=lH (HBA.o.trans (hb2.mono HG.o));have H2:=lH (H1.o.up hb2);have HK:=lH hbk;have hgw:w.heap.size≤g:=zI_ HG.o hg;clear hb2 hbk hg
 go_wp2_with fail
 go_ret;exact ⟨HB2.o,g,v1,rfl,hgw,HK.o,H2.o⟩
theorem ext_put {q:List Rat} {n k:Nat} (hq:q.length=n):(q++List.replicate n (0:Rat)).set (n+k) 1=q++unitL n k:=by
 unfold unitL;rw [List.set_append_right _ _ (by omega),hq];congr 2
 omega
theorem unit_bd {n i:Nat}:∀ x∈unitL n i,qsz x+1≤3:=fun x hx=>by
 have:x=0∨x=1:=by
  unfold unitL at hx;rcases List.mem_or_eq_of_mem_set hx with h | h
  ·exact .inl (List.mem_replicate.1 h).2
  ·exact .inr h
 rcases this with h | h<;>rw [h]<;>decide+kernel
theorem extR_bd {M:List (List Rat)} {b:Nat} (h:Bd b M) (hb:3≤b):Bd b (extR M):=fun a ha x hx=>by
 obtain ⟨i,hi⟩:=List.mem_iff_getElem?.1 ha;obtain ⟨row,hr⟩:∃ row,M[i]?=some row:=zX_ (by have:=(zB_.1 hi).1;rwa [extR_len] at this);rw [extR_at hr] at hi;injection hi with hi;rw [←hi] at hx;rcases List.mem_append.1 hx with hx | hx
 ·exact h row (zC_ hr) x hx
 ·exact zI_ (unit_bd x hx) hb
section
variable {w w':World} {base g:Nat} {hs:List Mh} {L:List (List Rat)}
theorem OwnM.mat (o:OwnM w base g hs L):MatS base g w w (.slice none 0 0) [] hs L:=⟨o,ownS_none _ _ _ _ _,bR⟩
end
structure CutM (w:World) (base g n k:Nat) (hs:List Hd) (L:List (List Rat)):Prop where
 top:Blk w g 93 (hs.map Hd.val).toArray
 len:hs.length=L.length
 gb:base≤g
 row:∀ (i:Nat) (h:Hd) (q:List Rat),hs[i]?=some h→L[i]?=some q→RdQ w w.heap.size h.A h.n (if i<k then q.drop n else q)∧h.n≤h.c∧h.c≤maxLen∧(0<h.n→∃ b off,h.A=some ⟨b,off,none⟩∧b≠g)
section
variable {w w':World} {base g n k:Nat} {hs:List Hd} {L:List (List Rat)}
theorem OwnM.cut {ms:List Mh} (o:OwnM w base g ms L):CutM w base g n 0 (ms.map fun h=>⟨h.A,h.vs.length,h.c⟩) L:=by
 refine ⟨?_,by rw [zG_,o.len],o.gb,fun i h q hh hq=>?_⟩
 ·rw [List.map_map];exact o.top
 ·rw [zM_] at hh
  obtain ⟨m,hm,rfl⟩:=Option.map_eq_some_iff.1 hh;have r:=o.row i m q hm hq;refine ⟨?_,r.cap,r.cm,fun h0=>?_⟩
  ·rw [if_neg (by omega)]
   have:=r.rd;rwa [←r.len] at this
  ·obtain ⟨h1,h2,h3,_⟩:=r.lies (by rw [←r.len];exact h0)
   exact ⟨m.g,0,h1,h3⟩
theorem CutM.up (o:CutM w base g n k hs L) (hb:Below w.heap.size w w'):CutM w' base g n k hs L:=
 ⟨o.top.bl hb,o.len,o.gb,fun i h q hh hq=>by
  obtain ⟨h1,h2,h3,h4⟩:=o.row i h q hh hq;exact ⟨(h1.below hb lR).more hb.size,h2,h3,h4⟩⟩
theorem CutM.get (o:CutM w base g n k hs L) {i:Nat} {q:List Rat} (hq:L[i]?=some q):∃ h:Hd,hs[i]?=some h∧w.cell? ⟨g,i,none⟩=some (.slice h.A h.n h.c):=by
 obtain ⟨h,hh⟩:∃ h,hs[i]?=some h:=zX_ (by rw [o.len];exact (zB_.1 hq).1);refine ⟨h,hh,?_⟩;rw [o.top.cell,List.getElem?_toArray,zM_,hh];rfl
theorem RdQ.drop {w:World} {B m n b off:Nat} {q:List Rat} (h:RdQ w B (some ⟨b,off,none⟩) m q) (hn:n≤m):RdQ w B (some ⟨b,off+n*4,none⟩) (m-n) (q.drop n):=by
 obtain ⟨vs,h1,h2,h3,h4⟩:=h;refine ⟨vs.drop n,by rw [zS_,h1],by rw [zS_,h2],⟨by rw [rvs_len,zS_,h1],fun h0=>?_⟩,fun i x v hx hv=>?_⟩
 ·obtain ⟨b',off',e,hlt,hc⟩:=h3.2 (by omega)
  injection e with e;injection e with e1 e2;subst e1;subst e2;refine ⟨b,off+n*4,rfl,hlt,fun j u hu=>?_⟩;have hd:rvs vs=rvs (vs.take n)++rvs (vs.drop n):=by
   unfold rvs;rw [←List.flatMap_append,List.take_append_drop]
  have hu2:(rvs vs)[n*4+j]?=some u:=by
   rw [hd,zN_ (by rw [rvs_len,zF_,h1];omega),rvs_len,zF_,h1,show n*4+j-min n m*4=j from by omega];exact hu
  have:=hc _ u hu2;rwa [←Nat.add_assoc] at this
 ·rw [List.getElem?_drop] at hx hv
  exact h4 _ _ _ hx hv
theorem CutM.step (o:CutM w base g n k hs L) {h h2:Hd} {q:List Rat} (hh:hs[k]?=some h) (hq:L[k]?=some q) (hr:RdQ w w.heap.size h2.A h2.n (q.drop n)) (h1:h2.n≤h2.c) (h3:h2.c≤maxLen) (h4:0<h2.n→∃ b off,h2.A=some ⟨b,off,none⟩∧b≠g):CutM (w.setCell ⟨g,k,none⟩ (.slice h2.A h2.n h2.c)) base g n (k+1) (hs.set k h2) L:=by
 have hkl:=(zB_.1 hh).1;have hrd:∀ {A:Option Addr} {m:Nat} {p:List Rat},RdQ w w.heap.size A m p→(0<m→∃ b off,A=some ⟨b,off,none⟩∧b≠g)→RdQ (w.setCell ⟨g,k,none⟩ (.slice h2.A h2.n h2.c)) (w.setCell ⟨g,k,none⟩ (.slice h2.A h2.n h2.c)).heap.size A m p:=fun {A m p} H hA=>by
  obtain ⟨vs,a1,a2,a3,a4⟩:=H;refine ⟨vs,a1,a2,⟨a3.1,fun hm=>?_⟩,fun i x v hx hv=>?_⟩
  ·obtain ⟨b,off,e,hlt,hc⟩:=a3.2 hm
   obtain ⟨b',off',e',hne⟩:=hA hm;rw [e] at e';injection e' with e';injection e' with e1 e2;subst e1;refine ⟨b,off,e,by simpa [World.setCell] using hlt,fun j u hu=>?_⟩;rw [World.cell?_setCell_other _ _ _ _ (fun e=>hne (by injection e with e;exact e.symm))];exact hc j u hu
  ·have h0:RtIs w w.heap.size x v.b1 v.A v.n v.c v.b2 v.A2 v.m v.d:=a4 i x v hx hv
   refine RtIs.keep h0 (v:=h.val) ?_ (fun a b e=>by simp [Hd.val] at e) _;rw [o.top.cell,List.getElem?_toArray,zM_,hh];rfl
 refine ⟨?_,by rw [zU_,o.len],o.gb,fun i z p hz hp=>?_⟩
 ·have:=o.top.set_ k (.slice h2.A h2.n h2.c)
  rw [List.map_set];simpa [Hd.val] using this
 ·rw [List.getElem?_set] at hz
  by_cases hik:k=i
  ·subst hik
   rw [if_pos rfl,if_pos hkl] at hz;injection hz with hz;subst hz;rw [hq] at hp;injection hp with hp;subst hp;refine ⟨?_,h1,h3,h4⟩;rw [if_pos (Nat.lt_succ_self _)];exact hrd hr h4
  ·rw [if_neg hik] at hz
   obtain ⟨a1,a2,a3,a4⟩:=o.row i z p hz hp;refine ⟨?_,a2,a3,a4⟩;have e:(if i<k+1 then p.drop n else p)=if i<k then p.drop n else p:=by
    by_cases hlt:i<k
    ·rw [if_pos hlt,if_pos (by omega)]
    ·rw [if_neg hlt,if_neg (by omega)]
   rw [e];exact hrd a1 a4
theorem CutM.rd (o:CutM w base g n L.length hs L):RdM w w.heap.size (some ⟨g,0,none⟩) L.length (L.map (List.drop n)):=by
 refine ⟨hs,o.len,zG_ _,⟨by simp [o.len],fun _=>⟨g,0,rfl,o.top.lt,fun j u hu=>?_⟩⟩,fun i h q hh hq=>?_⟩
 ·rw [Nat.zero_add,o.top.cell j,List.getElem?_toArray]
  exact hu
 ·rw [zM_] at hq
  obtain ⟨p,hp,rfl⟩:=Option.map_eq_some_iff.1 hq;obtain ⟨a1,a2,a3,_⟩:=o.row i h p hh hp;rw [if_pos (zB_.1 hp).1] at a1;exact ⟨a1,a2,a3⟩
end
def InvP (M:List (List Rat)) (w:World) (e:Ending) (w':World):Prop:=Below w.heap.size w w'∧(((redR (extR M) M.length).2.length<M.length∧e=.returned (.tuple #[.slice none 0 0,.bool false]))∨
 (¬(redR (extR M) M.length).2.length<M.length∧∃ g,e=.returned (.tuple #[.slice (some ⟨g,0,none⟩) M.length M.length,.bool true])∧w.heap.size≤g∧RdM w' w'.heap.size (some ⟨g,0,none⟩) M.length ((redR (extR M) M.length).1.map (List.drop M.length))))
theorem zeros_rd {w:World} {g n:Nat} {v:Rv} (hb:Blk w g 115 (rvs (List.replicate n v)).toArray):Rd w w.heap.size 4 (some ⟨g,0,none⟩) n (rvs (List.replicate n v)):=
 ⟨by rw [rvs_len,zO_],fun _=>⟨g,0,rfl,hb.lt,fun j u hu=>by rw [Nat.zero_add,hb.cell j];simpa using hu⟩⟩
theorem rep_ok {w:World} {n:Nat} {v:Rv} {q:Rat} (h:RtV w w.heap.size q v):RvOk w (List.replicate n v) (List.replicate n q):=fun i p x hp hx=>by
 rw [List.getElem?_replicate] at hp hx
 split at hp
 ·rename_i hi
  rw [if_pos hi] at hx;injection hp with hp;injection hx with hx;subst hp;subst hx;exact h
 ·cases hp
theorem RvOk.app {w:World} {vs us:List Rv} {ps qs:List Rat} (h:RvOk w vs ps) (h2:RvOk w us qs) (hl:vs.length=ps.length):RvOk w (vs++us) (ps++qs):=fun i q v hq hv=>by
 by_cases hi:i<ps.length
 ·rw [zR_ hi] at hq
  rw [zR_ (by omega)] at hv;exact h i q v hq hv
 ·rw [zN_ (by omega)] at hq
  rw [zN_ (by omega),hl] at hv;exact h2 _ q v hq hv
theorem rvs_app (a b:List Rv):rvs (a++b)=rvs a++rvs b:=by unfold rvs;rw [List.flatMap_append]
theorem inverse_m (A:Option Addr) (n c b:Nat) (M:List (List Rat)) (w:World) (hR:RdM w w.heap.size A n M) (hn:n≤1000) (hw:∀ a∈M,a.length=n) (hbd:Bd b M) (hb3:3≤b) (hsz:4^n*b≤4000000000000) :
    Calls Tryz.prog 121 #[.slice A n c] w (InvP M w):=by
 have HR:=lH hR;have HL:=lH hR.len;have HWD:=lH hw;have HEW:Hid (∀ a∈extR M,a.length=n+n):=lH (by have h:=hR.len;have:=extR_wid (M:=M) (by rw [h];exact hw);rwa [h] at this);have HEB:=lH (extR_bd hbd hb3);have HSZ:=lH hsz;obtain ⟨i0,hi0,hz0,hz1,hz2⟩:=rat_parts;have HI0:=lH hi0;have HI1:=lH hz0;have HI2:=lH hz1;have HI3:=lH hz2;clear hR hw hi0 hz0 hz1 hz2 hbd hb3 hsz;have hmk:∀ w:World,(Instr.makeSlice 92 (.int .i64 (n:Int)) (.int .i64 (n:Int))).run Tryz.prog w=.ok (.slice (some ⟨w.heap.size,0,none⟩) n n) (w.alloc (.cells (nilRows n) 93)):=fun w=>make_rows n (by omega) w;have HK:=lH ((Below.refl w.heap.size w).alloc lR (.cells (nilRows n) 93));have HG:=lH (Blk.new w 93 (nilRows n));go_enter Tryz.func121,Tryz.ntmps121
 go_wp2_with fail
 clear hmk;generalize w.alloc (.cells (nilRows n) 93)=W at *;have HO:=lH (ownM_made HG.o lR);generalize hg:w.heap.size=g at *;have HGS:=lH hg;clear hg HG
 go_loopw [16] (fun v16 wr=>∃ (k:Nat) (hs:List Mh),k≤n∧v16=.int .i64 k∧Below g w wr∧OwnM wr g g hs ((extR M).take k++List.replicate (n-k) [])) (fun v16 _=>n-(intOf v16).toNat)
 case atStart=>exact ⟨0,_,by omega,rfl,HK.o,by rw [List.take_zero,List.nil_append,Nat.sub_zero];exact HO.o⟩
 case round=>
  clear HK HO;obtain ⟨k,hs,hk,rfl,hb,ho⟩:=hrel;have HK:=lH hb;have HO:=lH ho;clear hb ho
  by_cases hlt:k<n
  ·obtain ⟨q,hq⟩:∃ q,M[k]?=some q:=zX_ (by have:=HL.o;omega)
   obtain ⟨b0,o,hA,hb⟩:=(HR.o.below HK.o (by have:=HGS.o;omega)).form (by omega);subst hA;obtain ⟨h,hc,hrq,hh1,hh2⟩:=(HR.o.below HK.o (by have:=HGS.o;omega)).at_ hq;have HGL:Hid (g<wr.heap.size):=lH HO.o.top.lt;have HRQ:=lH (hrq.more (B':=wr.heap.size) (by have:=HGS.o;have:=HGL.o;omega));have HQL:Hid (q.length=n):=lH (HWD.o q (zC_ hq));have HXQ:=lH (extR_at hq);rw [HL.o] at HXQ;have HF:Hid (((extR M).take k++List.replicate (n-k) []).set k (q++unitL n k)=(extR M).take (k+1)++List.replicate (n-(k+1)) []):=lH (fill_set (by rw [extR_len,HL.o]) HXQ.o);have hkI:(k:Int)<(n:Int):=by omega
   have HN1:=lN k;have HN2:Hid (n-(k+1)<n-k):=lH (by omega);have hbl:b0<wr.heap.size:=by have:=HK.o.size;have:=HGS.o;omega
   obtain ⟨vs,hv1,hv2,hv3,hv4⟩:=rdQ_parts HRQ.o;obtain ⟨hA0,hn0,hc0⟩:=h;simp only at hc hv1 hv2 hv3 hv4 hh1 hh2;have hn0n:hn0=n:=by have:=HQL.o;omega
   subst hn0n;have HV1:=lH hv1;have HV3:=lH hv3;have HV4:=lH hv4;clear hv1 hv2 hv3 hv4 hq hrq hb HR
   go_wp2_with (at_builtin;refine wpList_appR (S:=NoI) rfl (.const (.slice none 0 0)) (.tmp 24) _ rfl g 115 i0 _ 4 64 Tryz.underlying93 HI0.o HI1.o HI2.o HI3.o rfl (by omega) zr_noI (.slice none 0 0) 0 [] rfl (ownS_none _ _ _ _ _) hA0 hn0 hc0 (rvs vs) rfl HV3.o (rvs_noI vs) ?k1 ?k2 ?k3 ?_)
   case k1=>simp only [maxLen];omega
   case k2=>omega
   case k3=>have:=HGL.o;omega
   intro v' w6 hown hkeep hb6 how6 hblk;have HB6:=lH hb6;have HOW6:=lH how6;clear hown hkeep hb6 how6 hblk hc
   go_wp2_with fail
   refine (zeros_any hn0 w6 hn).mono ?_;rintro e w7 ⟨hb7,gz,vz,rfl,hgz,hbz,hvz⟩;have HB7:=lH hb7;have HOW7:=lH (HOW6.o.keep hb7);have HZR:=lH (zeros_rd hbz);have HVZ:=lH hvz;have HV7:Hid (RvOk w7 vs q):=lH (RvOk.up (w:=w6) (RvOk.up (w:=wr) HV4.o HB6.o) hb7);have HBS:Hid (wr.heap.size≤w7.heap.size):=lH (zI_ HB6.o.size hb7.size);clear hb7 hbz hvz hgz HOW6
   go_wp2_with (at_builtin;refine wpList_appR (S:=NoI) rfl (.tmp 25) (.tmp 27) _ rfl wr.heap.size 115 i0 _ 4 64 Tryz.underlying93 HI0.o HI1.o HI2.o HI3.o rfl (by omega) zr_noI v' hn0 (rvs vs) rfl HOW7.o (some ⟨gz,0,none⟩) hn0 hn0 (rvs (List.replicate hn0 vz)) rfl HZR.o (rvs_noI _) ?k1 ?k2 ?k3 ?_)
   case k1=>simp only [maxLen];omega
   case k2=>omega
   case k3=>exact HBS.o
   intro v2 w8 hown8 hkeep8 hnil8 hblk8;have HB8:Hid (Below wr.heap.size wr w8):=lH (HB6.o.trans ((HB7.o.mono HB6.o.size).trans hkeep8.low));have HOQ:Hid (OwnQ w8 wr.heap.size v2 (vs++List.replicate hn0 vz) (q++List.replicate hn0 0)):=lH (by
    refine ⟨?_,?_,?_⟩
    ·rw [zE_,zO_,HV1.o,rvs_app];exact hown8
    ·rw [zE_,zE_,zO_,zO_,HV1.o,HQL.o]
    ·refine RvOk.app (fun i p x hp hx=>?_) (rep_ok (RtV.keeps HVZ.o hkeep8)) (by rw [HV1.o,HQL.o])
     exact RtV.keeps (HV7.o i p x hp hx) hkeep8)
   obtain ⟨h2,hv,hvs,hrow⟩:=mrow_own (w':=w8) (g:=g) HOQ.o HGL.o;subst hv;have HRW:=lH (hrow.mono (base':=g) (zQ_ HGL.o));have HBW:=lH (HK.o.trans (HB8.o.mono (zQ_ HGL.o)));have HO8:=lH (HO.o.up HB8.o);have HFR:Hid (∀ j (h':Mh),j≠k→hs[j]?=some h'→0<h'.vs.length→0<h2.vs.length→h'.g≠h2.g):=lH fun j h' _ hh l1 l2=>by
    have h3:=HO.o.lt hh l1;have h4:=(hrow.lies (by rw [←hrow.len];exact l2)).2.1;omega
   clear hown8 hkeep8 hnil8 hblk8 hvs hrow HK HO HOQ HV7 HVZ HZR HOW7 HB6 HB7 HV3 HV4 HBS;have HQQ0:(q++List.replicate hn0 (0:Rat)).length=hn0+hn0:=by rw [zE_,zO_,HQL.o]
   have HQ9L:=lH HQQ0;have gl:=HO8.o.top.lt;have gf:=HO8.o.top.frozen;have HKL:Hid (k<(((extR M).take k++List.replicate (hn0-k) []):List (List Rat)).length):=lH (by simp;have:=HL.o;have:=extR_len M;omega);obtain ⟨gv,gc⟩:∃ gv,w8.cell? ⟨g,k,none⟩=some gv:=by
    rw [HO8.o.top.cell];exact ⟨_,Array.getElem?_eq_getElem (by rw [List.size_toArray,zG_,HO8.o.len];exact HKL.o)⟩
   have HO9:=lH (HO8.o.setRow HKL.o HRW.o HFR.o);have HB9:Hid (Below g w (w8.setCell ⟨g,k,none⟩ (.slice h2.A (q++List.replicate hn0 (0:Rat)).length h2.c))):=lH (HBW.o.setCell lR _);rw [HQQ0] at HO9 HB9 ⊢;clear HQQ0
   go_upto_region 7 with fail
   clear gl gf gc;generalize w8.setCell ⟨g,k,none⟩ (.slice h2.A (hn0+hn0) h2.c)=w9 at *;have HQ9:Hid ((((extR M).take k++List.replicate (hn0-k) []).set k (q++List.replicate hn0 0))[k]?=some (q++List.replicate hn0 0)):=lH (by rw [List.getElem?_set,if_pos rfl,if_pos HKL.o]);have HP9:Hid ((((extR M).take k++List.replicate (hn0-k) []).set k (q++List.replicate hn0 0)).set k ((q++List.replicate hn0 0).set (hn0+k) 1)=(extR M).take (k+1)++List.replicate (hn0-(k+1)) []):=lH (by rw [List.set_set,ext_put HQL.o,HF.o]);generalize (((extR M).take k++List.replicate (hn0-k) []).set k (q++List.replicate hn0 0))=L9 at *;generalize q++List.replicate hn0 (0:Rat)=q9 at *;generalize hs.set k h2=hs9 at *;obtain ⟨gg,cc,vs9,x9,hh9,c,hx9,c0,c1,c2,c3,hv9,l1,f1,hne⟩:=HO9.o.mat.elem (i:=k) (j:=hn0+k) HQ9.o (by rw [HQ9L.o];omega);rw [HQ9L.o] at c;have HH:=lH hh9;have HX:=lH hx9;have gl:=HO9.o.top.lt
   have HB4:=lH (below_drew (Below.refl w9.heap.size w9));clear hh9 hx9 hv9 HF HXQ HRW HFR HKL HBW HO8 HV1 HB8;obtain ⟨m,hm⟩:∃ m:Nat,m=hn0+k:=⟨_,rfl⟩;rw [←hm] at c0 c1 c2 c3 HX HP9;have HM:=lH hm;have hw1:IntKind.i64.wrap (m:Int)=(m:Int):=IntWalk.i64_in _ (by omega);have hw2:(hn0:Int)+(k:Int)=(m:Int):=by omega
   have hm2:m<hn0+hn0:=by omega
   have hm3:(m:Int)<((hn0+hn0:Nat):Int):=by omega
   have hk0:=lZ k
   have hm0:=lZ m
   have hmn:=zL_ m;generalize hn0+hn0=n2 at *;clear hm;refine wp_region_last (S:=fun w'=>Below w9.heap.size w9 w') 9 _ (by kernel_rfl) (by kernel_rfl) rfl (below_drew bR) (fun hHeld=>?_);simp only [zK_,List.take_zero];refine tkH 0 rfl ?_;refine tkH 1 rfl ?_;refine tkH 2 rfl ?_;refine tkH 3 rfl ?_;refine tkH 4 rfl ?_;refine tkH 5 rfl ?_;refine tkH 6 rfl ?_;refine stepH 7 (by kernel_rfl) rfl (fun K hK=>?_);go_simp;refine (wholeV 1 w9.drew (by decide) (by decide)).mono ?_;rintro e w10 ⟨hb10,v10,rfl,h10⟩;have HB10:Hid (Below w9.heap.size w9 w10):=lH (HB4.o.trans hb10);have H10:=lH h10;clear hb10 h10;go_simp;refine hK.out _ _ ?_ (fun hHeld=>?_)
   ·exact HB10.o
   clear hK K
   try simp only [Act.put,sA_,sB_,sC_]
   refine tkH 8 rfl ?_;refine wpAnyH_done (by kernel_rfl) ?_ _;refine lastQ_go (by rfl) ?_;clear hHeld;have HO10:=lH (HO9.o.up HB10.o);have HB11:=lH (HB9.o.trans (HB10.o.mono (by have:=HB9.o.size;have:=HGS.o;omega)));clear c c0 c1 c2 c3 l1 f1 hne gl HO9 HB9;obtain ⟨c0,c1,c2,c3,l1,f1⟩:=HO10.o.mat.elem2 HH.o HQ9.o HX.o
   go_wp2_with fail
   go_roundw
   case rel=>exact ⟨k+1,_,hlt,val_int HN1.o,below_putV HB11.o (by
       obtain ⟨h1,h2,-⟩:=(HO10.o.row k _ q9 HH.o HQ9.o).lies (by rw [HQ9L.o];omega);exact h2),by
       rw [←HP9.o];exact HO10.o.put HH.o HQ9.o (by rw [HQ9L.o];exact hm2) H10.o⟩
   case measure=>exact HN2.o
  ·have hke:k=n:=by omega
   subst hke;have hkI:¬(k:Int)<(k:Int):=by omega
   have HOX:Hid (OwnM wr g g hs (extR M)):=lH (by
    have h:=HO.o;rw [Nat.sub_self,List.replicate_zero,List.append_nil,zH_ (by rw [extR_len,HL.o];exact lR)] at h;exact h)
   have HRX:Hid (RdM wr wr.heap.size (some ⟨g,0,none⟩) k (extR M)):=lH (by have h:=HOX.o.rd;rwa [extR_len,HL.o] at h);have HRD:=lH (reduce_m (some ⟨g,0,none⟩) k k k (k+k) b (extR M) wr HRX.o (by omega) HEW.o (by omega) (by omega) HEB.o HSZ.o);have HOK:=lH (redR_ok (M:=extR M) (N:=k+k) (cols:=k) HEW.o (by omega));clear HRX HO HEB HSZ HEW
   go_wp2_with fail
   refine HRD.o.mono ?_;rintro e w2 ⟨hb2,g2,hs2,v,rfl,ho2,hp⟩;obtain ⟨pA,pc,hv,-,-⟩:=hp.shape;subst hv;have HB2:=lH (HK.o.trans (hb2.mono (by have:=HK.o.size;have:=HGS.o;omega)));have HC2:=lH (ho2.cut (n:=k));have HGG:Hid (g≤wr.heap.size):=lH (by have:=HK.o.size;have:=HGS.o;omega);rw [show (extR M).length=k from by rw [extR_len,HL.o]];have HINV:Hid (∀ (e:Ending) (w':World),Below w.heap.size w w'→(((redR (extR M) k).2.length<k∧e=.returned (.tuple #[.slice none 0 0,.bool false]))∨(¬(redR (extR M) k).2.length<k∧∃ g,e=.returned (.tuple #[.slice (some ⟨g,0,none⟩) k k,.bool true])∧w.heap.size≤g∧RdM w' w'.heap.size (some ⟨g,0,none⟩) k ((redR (extR M) k).1.map (List.drop k))))→InvP M w e w'):=lH fun e w' h1 h2=>by
    unfold InvP;rw [HL.o];exact ⟨h1,h2⟩
   have HLL:Hid ((redR (extR M) k).1.length=k):=lH (by rw [HOK.o.len,extR_len,HL.o]);have HLW:=lH HOK.o.wid;clear hb2 ho2 hp HRD HOK HOX HK;generalize (redR (extR M) k).1=L at *;generalize (redR (extR M) k).2.length=pl at *
   by_cases hpl:pl<k
   ·have hplI:(pl:Int)<(k:Int):=by omega
    go_wp2_with fail
    go_ret2;exact HINV.o _ _ (by rw [HGS.o];exact HB2.o) (.inl ⟨hpl,rfl⟩)
   ·have hplI:¬(pl:Int)<(k:Int):=by omega
    go_wp2_with fail
    generalize hs2.map (fun h=>(⟨h.A,h.vs.length,h.c⟩:Hd))=hs3 at *
    go_loopw [52] (fun v52 wq=>∃ (i:Nat) (hs:List Hd),i≤k∧v52=.int .i64 i∧Below g w wq∧CutM wq wr.heap.size g2 k i hs L) (fun v52 _=>k-(intOf v52).toNat)
    case atStart=>exact ⟨0,hs3,by omega,rfl,HB2.o,HC2.o⟩
    case round=>
     clear HB2 HC2;obtain ⟨i,hsi,hi,rfl,hb,hc⟩:=hrel;have HB:=lH hb;have HC:=lH hc;clear hb hc
     by_cases hlt:i<k
     ·obtain ⟨q,hq⟩:∃ q,L[i]?=some q:=zX_ (by have:=HLL.o;omega)
      obtain ⟨h,hh,c⟩:=HC.o.get hq;obtain ⟨r1,r2,r3,r4⟩:=HC.o.row i h q hh hq;rw [if_neg (by omega)] at r1;have hhn:h.n=k+k:=by rw [←r1.len];exact HLW.o q (zC_ hq)
      obtain ⟨hA,hn2,hc2⟩:=h;simp only at c r1 r2 r3 r4 hhn;subst hhn;obtain ⟨b2,o2,hA2,hne2⟩:=r4 (by omega);subst hA2;have HR1:=lH (r1.drop (n:=k) (by omega));have HHH:=lH hh;have HQQ:=lH hq;have gl:=HC.o.top.lt;have gf:=HC.o.top.frozen;have hiI:(i:Int)<(k:Int):=by omega
      have HN1:=lN i;have HN2:Hid (k-(i+1)<k-i):=lH (by omega);clear r1 r4 hh hq;have hk0:0<k:=by omega
      have hkc:¬hc2=k:=by omega
      have hki:(k:Int)≤((k+k:Nat):Int):=by omega
      have hkz:=lZ k
      have hck:(k:Int)≤(hc2:Int):=by omega
      have hck2:((k+k:Nat):Int)≤(hc2:Int):=by omega
      have hkt:=zL_ k;rw [show k+k-k=k from by omega] at HR1;have HR2:Hid (k≤hc2-k∧hc2-k≤maxLen):=lH (by omega);have hsb:k+k-k=k:=by omega
      go_wp2_with fail
      go_roundw
      case rel=>exact ⟨i+1,_,hlt,val_int HN1.o,HB.o.setCell (zI_ HGG.o HC.o.gb) _,HC.o.step (h2:=⟨some ⟨b2,o2+k*4,none⟩,k,hc2-k⟩) HHH.o HQQ.o HR1.o HR2.o.1 HR2.o.2 (fun _=>⟨_,_,rfl,hne2⟩)⟩
      case measure=>exact HN2.o
     ·have hie:i=k:=by omega
      subst hie;have hiI:¬(i:Int)<(i:Int):=by omega
      go_wp2_with fail
      go_ret2;exact HINV.o _ _ (by rw [HGS.o];exact HB.o) (.inr ⟨hpl,g2,rfl,by rw [HGS.o];exact zI_ HGG.o HC.o.gb,by have h:=HC.o;rw [←HLL.o] at h;have h2:=h.rd;rwa [HLL.o] at h2⟩)
end
end Go.Proofs.YthgdchffeigkbaaGreatDoor

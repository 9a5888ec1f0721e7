import Derived.Test.YthgdchffeigkbaaGreatDoorX09
set_option linter.unusedVariables false
set_option linter.unusedSimpArgs false
namespace Go.Proofs.YthgdchffeigkbaaGreatDoor
set_option maxHeartbeats 4000000
set_option maxRecDepth 100000
section
open Go.ChangeShapes Go.WideShapes Go.ChangeAt Go.RowKit
attribute [local go_sem ↓] aE
attribute [local go_sem] aK aH aM
theorem DI (p q:Rat):(p.den:Int)*(q.den:Int)≠0:=by
 have h1:=p.den_pos;have h2:=q.den_pos;have:0<p.den*q.den:=Nat.mul_pos h1 h2;rw [<-Int.natCast_mul];omega
theorem VW (a b:Rat):Rat.divInt (a.num*(b.den:Int)+b.num*(a.den:Int)) ((a.den:Int)*(b.den:Int))=a+b:=by
 rw [<-Int.natCast_mul];exact LU a b
theorem UE (a b:Rat):Rat.divInt (a.num*b.num) ((a.den:Int)*(b.den:Int))=a*b:=by
 rw [<-Int.natCast_mul];exact KQ a b
theorem PA (p q:Rat) (b1:Bool) (A:OA) (n c:Nat) (b2:Bool) (A2:OA) (n2 c2:Nat) (b3:Bool) (B:OA) (m d:Nat) (b4:Bool) (B2:OA) (m2 d2:Nat) (w:Wo) (h1:dE w w.heap.size p b1 A n c b2 A2 n2 c2) (h2:dE w w.heap.size q b3 B m d b4 B2 m2 d2) (hs:bU p+bU q+1<=35184372088832) :
    Calls Tryz.prog 70 #[.agg #[.bool b1,.slice A n c,.bool b2,.slice A2 n2 c2],.agg #[.bool b3,.slice B m d,.bool b4,.slice B2 m2 d2]] w (YZ (p*q) w):=by
 have l1:=h1.n_le;have l2:=h1.m_le;have l3:=h2.n_le;have l4:=h2.m_le;have dB:Hid (Below w.heap.size w (((w.alloc (.cells #[.bool b1,.slice A n c,.bool b2,.slice A2 n2 c2] 115)).alloc (.cells #[.bool b3,.slice B m d,.bool b4,.slice B2 m2 d2] 115)).alloc (.cells #[.bool false,.slice none 0 0,.bool false,.slice none 0 0] 115))):=lH (((bA).alloc (by simp) _).alloc (by simp;omega) _);have cJ:Hid (aG (((w.alloc (.cells #[.bool b1,.slice A n c,.bool b2,.slice A2 n2 c2] 115)).alloc (.cells #[.bool b3,.slice B m d,.bool b4,.slice B2 m2 d2] 115)).alloc (.cells #[.bool false,.slice none 0 0,.bool false,.slice none 0 0] 115)) w.heap.size 115 #[.bool b1,.slice A n c,.bool b2,.slice A2 n2 c2]):=lH (((aG.new w _ _).alloc _).alloc _)
 have dI:Hid (aG (((w.alloc (.cells #[.bool b1,.slice A n c,.bool b2,.slice A2 n2 c2] 115)).alloc (.cells #[.bool b3,.slice B m d,.bool b4,.slice B2 m2 d2] 115)).alloc (.cells #[.bool false,.slice none 0 0,.bool false,.slice none 0 0] 115)) (w.heap.size+1) 115 #[.bool b3,.slice B m d,.bool b4,.slice B2 m2 d2]):=lH ((aG.new_ (by simp)).alloc _);have HR:Hid (aG (((w.alloc (.cells #[.bool b1,.slice A n c,.bool b2,.slice A2 n2 c2] 115)).alloc (.cells #[.bool b3,.slice B m d,.bool b4,.slice B2 m2 d2] 115)).alloc (.cells #[.bool false,.slice none 0 0,.bool false,.slice none 0 0] 115)) (w.heap.size+1+1) 115 #[.bool false,.slice none 0 0,.bool false,.slice none 0 0]):=lH (aG.new_ (by simp));have qK:w.heap.size<=w.heap.size+1+1:=by omega
 have H1:=lH (h1.up dB.o);have H2:=lH (h2.up dB.o);clear h1 h2;go_enter Tryz.func70,Tryz.ntmps70
 go_upto_region 1 with fail
 generalize (((w.alloc (.cells #[.bool b1,.slice A n c,.bool b2,.slice A2 n2 c2] 115)).alloc (.cells #[.bool b3,.slice B m d,.bool b4,.slice B2 m2 d2] 115)).alloc (.cells #[.bool false,.slice none 0 0,.bool false,.slice none 0 0] 115))=W at *;have p0:=cJ.o.cell 0;have p1:=cJ.o.cell 1;have p2:=cJ.o.cell 2;have p3:=cJ.o.cell 3;have pl:=cJ.o.lt;have q0:=dI.o.cell 0;have q1:=dI.o.cell 1;have q2:=dI.o.cell 2;have q3:=dI.o.cell 3;have ql:=dI.o.lt;have bK:=lH (aD (Below.refl W.heap.size W));refine aJ (S:=fun w'=>Below W.heap.size W w') 11 _ (by kernel_rfl) (by kernel_rfl) rfl bK.o (fun hHeld=>?_);simp only [lA,List.take_zero];refine aL 0 rfl ?_;refine aL 1 rfl ?_;refine aL 2 rfl ?_;refine aL 3 rfl ?_;refine aL 5 rfl ?_;refine aL 6 rfl ?_;refine aL 7 rfl ?_;refine aL 8 rfl ?_;refine aU 4 (by kernel_rfl) rfl (fun K hK=>?_);go_simp
 refine (iO (p.num) (q.num) b1 A n c b3 B m d _ (H1.o.up bK.o).num (H2.o.up bK.o).num (by omega)).mono ?_;rintro e w5 ⟨eD,f5,C5,i5,j5,rfl,h5⟩;have dX:=lH (bK.o.tm eD);have H5:=lH h5;have s5:i5<=m+n:=by rw [h5.en,((H1.o.up bK.o).num).en,((H2.o.up bK.o).num).en,Nat.add_comm];exact eT _ _
 clear eD h5;go_simp;refine hK.out _ _ ?_ (fun hHeld=>?_)
 ·exact dX.o
 clear hK K
 try simp only [Act.put,bP,bO,bN]
 refine aU 9 (by kernel_rfl) rfl (fun K hK=>?_);go_simp;refine (iO ((p.den:Int)) ((q.den:Int)) b2 A2 n2 c2 b4 B2 m2 d2 _ (H1.o.up dX.o).den (H2.o.up dX.o).den (by omega)).mono ?_;rintro e w6 ⟨fQ,f6,C6,i6,j6,rfl,h6⟩;have fV:=lH (dX.o.tm fQ);have H6:=lH h6;have s6:i6<=m2+n2:=by rw [h6.en,((H1.o.up dX.o).den).en,((H2.o.up dX.o).den).en,Nat.add_comm];exact eT _ _
 have H5_6:=lH (H5.o.up fQ);clear fQ h6;go_simp;refine hK.out _ _ ?_ (fun hHeld=>?_)
 ·exact fV.o
 clear hK K
 try simp only [Act.put,bP,bO,bN]
 refine aU 10 (by kernel_rfl) rfl (fun K hK=>?_);go_simp;refine (vP (p.num*q.num) ((p.den:Int)*(q.den:Int)) f5 C5 i5 j5 f6 C6 i6 j6 _ H5_6.o H6.o (DI p q) (by omega) (by omega)).mono ?_;rw [UE];rintro e w7 ⟨gY,f7,C7,i7,j7,f7d,C7d,i7d,j7d,rfl,h7⟩;have iM:=lH (fV.o.tm gY);have H7:=lH h7;clear gY h7;go_simp;refine hK.out _ _ ?_ (fun hHeld=>?_)
 ·exact iM.o
 clear hK K
 try simp only [Act.put,bP,bO,bN]
 refine wpAnyH_done (by kernel_rfl) ?_ _;refine aP (by rfl) ?_;have CU:=lH (dB.o.tm iM.o);have eP:=lH (HR.o.bl iM.o);clear p0 p1 p2 p3 q0 q1 q2 q3 pl ql;have z0:=eP.o.cell 0;have z1:=eP.o.cell 1;have z2:=eP.o.cell 2;have z3:=eP.o.cell 3;have zf:=eP.o.frozen;have zl:=eP.o.lt
 go_wp2_with fail
 generalize fD:(((w7.setCell ⟨_,0,none⟩ _).setCell ⟨_,1,none⟩ _).setCell ⟨_,2,none⟩ _).setCell ⟨_,3,none⟩ _=W9;have iK:=lH (mO (e:=.returned (.agg #[.bool f7,.slice C7 i7 j7,.bool f7d,.slice C7d i7d j7d])) CU.o qK eP.o (by simp) (by simp) (by simp) (by simp) H7.o rfl);rw [fD] at iK;have cQ:Hid (aG W9 _ 115 #[.bool f7,.slice C7 i7 j7,.bool f7d,.slice C7d i7d j7d]):=lH (by rw [<-fD];exact fO eP.o);clear fD z0 z1 z2 z3 zf zl;have q0:=cQ.o.cell 0;have q1:=cQ.o.cell 1;have q2:=cQ.o.cell 2;have q3:=cQ.o.cell 3;exact bodyPost_ret (v:=.agg #[.bool f7,.slice C7 i7 j7,.bool f7d,.slice C7d i7d j7d]) (by simp [results,Tryz.results70,go_sem,q0,q1,q2,q3]) rfl iK.o
theorem aCY (p q:Rat) (b1:Bool) (A:OA) (n c:Nat) (b2:Bool) (A2:OA) (n2 c2:Nat) (b3:Bool) (B:OA) (m d:Nat) (b4:Bool) (B2:OA) (m2 d2:Nat) (w:Wo) (h1:dE w w.heap.size p b1 A n c b2 A2 n2 c2) (h2:dE w w.heap.size q b3 B m d b4 B2 m2 d2) (hq:q≠0) (hs:bU p+bU q+1<=35184372088832) :
    Calls Tryz.prog 120 #[.agg #[.bool b1,.slice A n c,.bool b2,.slice A2 n2 c2],.agg #[.bool b3,.slice B m d,.bool b4,.slice B2 m2 d2]] w (YZ (p / q) w):=by
 have l1:=h1.n_le;have l2:=h1.m_le;have l3:=h2.n_le;have l4:=h2.m_le;have dB:Hid (Below w.heap.size w (((w.alloc (.cells #[.bool b1,.slice A n c,.bool b2,.slice A2 n2 c2] 115)).alloc (.cells #[.bool b3,.slice B m d,.bool b4,.slice B2 m2 d2] 115)).alloc (.cells #[.bool false,.slice none 0 0,.bool false,.slice none 0 0] 115))):=lH (((bA).alloc (by simp) _).alloc (by simp;omega) _);have cJ:Hid (aG (((w.alloc (.cells #[.bool b1,.slice A n c,.bool b2,.slice A2 n2 c2] 115)).alloc (.cells #[.bool b3,.slice B m d,.bool b4,.slice B2 m2 d2] 115)).alloc (.cells #[.bool false,.slice none 0 0,.bool false,.slice none 0 0] 115)) w.heap.size 115 #[.bool b1,.slice A n c,.bool b2,.slice A2 n2 c2]):=lH (((aG.new w _ _).alloc _).alloc _)
 have dI:Hid (aG (((w.alloc (.cells #[.bool b1,.slice A n c,.bool b2,.slice A2 n2 c2] 115)).alloc (.cells #[.bool b3,.slice B m d,.bool b4,.slice B2 m2 d2] 115)).alloc (.cells #[.bool false,.slice none 0 0,.bool false,.slice none 0 0] 115)) (w.heap.size+1) 115 #[.bool b3,.slice B m d,.bool b4,.slice B2 m2 d2]):=lH ((aG.new_ (by simp)).alloc _);have HR:Hid (aG (((w.alloc (.cells #[.bool b1,.slice A n c,.bool b2,.slice A2 n2 c2] 115)).alloc (.cells #[.bool b3,.slice B m d,.bool b4,.slice B2 m2 d2] 115)).alloc (.cells #[.bool false,.slice none 0 0,.bool false,.slice none 0 0] 115)) (w.heap.size+1+1) 115 #[.bool false,.slice none 0 0,.bool false,.slice none 0 0]):=lH (aG.new_ (by simp));have qK:w.heap.size<=w.heap.size+1+1:=by omega
 have H1:=lH (h1.up dB.o);have H2:=lH (h2.up dB.o);clear h1 h2;go_enter Tryz.func120,Tryz.ntmps120
 go_upto_region 1 with fail
 generalize (((w.alloc (.cells #[.bool b1,.slice A n c,.bool b2,.slice A2 n2 c2] 115)).alloc (.cells #[.bool b3,.slice B m d,.bool b4,.slice B2 m2 d2] 115)).alloc (.cells #[.bool false,.slice none 0 0,.bool false,.slice none 0 0] 115))=W at *;have p0:=cJ.o.cell 0;have p1:=cJ.o.cell 1;have p2:=cJ.o.cell 2;have p3:=cJ.o.cell 3;have pl:=cJ.o.lt;have q0:=dI.o.cell 0;have q1:=dI.o.cell 1;have q2:=dI.o.cell 2;have q3:=dI.o.cell 3;have ql:=dI.o.lt;have bK:=lH (aD (Below.refl W.heap.size W));refine aJ (S:=fun w'=>Below W.heap.size W w') 11 _ (by kernel_rfl) (by kernel_rfl) rfl bK.o (fun hHeld=>?_);simp only [lA,List.take_zero];refine aL 0 rfl ?_;refine aL 1 rfl ?_;refine aL 2 rfl ?_;refine aL 3 rfl ?_;refine aL 5 rfl ?_;refine aL 6 rfl ?_;refine aL 7 rfl ?_;refine aL 8 rfl ?_;refine aU 4 (by kernel_rfl) rfl (fun K hK=>?_);go_simp
 refine (iO (p.num) ((q.den:Int)) b1 A n c b4 B2 m2 d2 _ (H1.o.up bK.o).num (H2.o.up bK.o).den (by omega)).mono ?_;rintro e w5 ⟨eD,f5,C5,i5,j5,rfl,h5⟩;have dX:=lH (bK.o.tm eD);have H5:=lH h5;have s5:i5<=m2+n:=by rw [h5.en,((H1.o.up bK.o).num).en,((H2.o.up bK.o).den).en,Nat.add_comm];exact eT _ _
 clear eD h5;go_simp;refine hK.out _ _ ?_ (fun hHeld=>?_)
 ·exact dX.o
 clear hK K
 try simp only [Act.put,bP,bO,bN]
 refine aU 9 (by kernel_rfl) rfl (fun K hK=>?_);go_simp;refine (iO ((p.den:Int)) (q.num) b2 A2 n2 c2 b3 B m d _ (H1.o.up dX.o).den (H2.o.up dX.o).num (by omega)).mono ?_;rintro e w6 ⟨fQ,f6,C6,i6,j6,rfl,h6⟩;have fV:=lH (dX.o.tm fQ);have H6:=lH h6;have s6:i6<=m+n2:=by rw [h6.en,((H1.o.up dX.o).den).en,((H2.o.up dX.o).num).en,Nat.add_comm];exact eT _ _
 have H5_6:=lH (H5.o.up fQ);clear fQ h6;go_simp;refine hK.out _ _ ?_ (fun hHeld=>?_)
 ·exact fV.o
 clear hK K
 try simp only [Act.put,bP,bO,bN]
 refine aU 10 (by kernel_rfl) rfl (fun K hK=>?_);go_simp;refine (vP (p.num*(q.den:Int)) ((p.den:Int)*q.num) f5 C5 i5 j5 f6 C6 i6 j6 _ H5_6.o H6.o (Int.mul_ne_zero (by have:=p.den_pos;omega) fun h=>hq (Rat.num_eq_zero.1 h)) (by omega) (by omega)).mono ?_;rw [LK];rintro e w7 ⟨gY,f7,C7,i7,j7,f7d,C7d,i7d,j7d,rfl,h7⟩;have iM:=lH (fV.o.tm gY);have H7:=lH h7;clear gY h7;go_simp;refine hK.out _ _ ?_ (fun hHeld=>?_)
 ·exact iM.o
 clear hK K
 try simp only [Act.put,bP,bO,bN]
 refine wpAnyH_done (by kernel_rfl) ?_ _;refine aP (by rfl) ?_;have CU:=lH (dB.o.tm iM.o);have eP:=lH (HR.o.bl iM.o);clear p0 p1 p2 p3 q0 q1 q2 q3 pl ql;have z0:=eP.o.cell 0;have z1:=eP.o.cell 1;have z2:=eP.o.cell 2;have z3:=eP.o.cell 3;have zf:=eP.o.frozen;have zl:=eP.o.lt
 go_wp2_with fail
 generalize fD:(((w7.setCell ⟨_,0,none⟩ _).setCell ⟨_,1,none⟩ _).setCell ⟨_,2,none⟩ _).setCell ⟨_,3,none⟩ _=W9;have iK:=lH (mO (e:=.returned (.agg #[.bool f7,.slice C7 i7 j7,.bool f7d,.slice C7d i7d j7d])) CU.o qK eP.o (by simp) (by simp) (by simp) (by simp) H7.o rfl);rw [fD] at iK;have cQ:Hid (aG W9 _ 115 #[.bool f7,.slice C7 i7 j7,.bool f7d,.slice C7d i7d j7d]):=lH (by rw [<-fD];exact fO eP.o);clear fD z0 z1 z2 z3 zf zl;have q0:=cQ.o.cell 0;have q1:=cQ.o.cell 1;have q2:=cQ.o.cell 2;have q3:=cQ.o.cell 3;exact bodyPost_ret (v:=.agg #[.bool f7,.slice C7 i7 j7,.bool f7d,.slice C7d i7d j7d]) (by simp [results,Tryz.results120,go_sem,q0,q1,q2,q3]) rfl iK.o
theorem F4 (p q:Rat) (b1:Bool) (A:OA) (n c:Nat) (b2:Bool) (A2:OA) (n2 c2:Nat) (b3:Bool) (B:OA) (m d:Nat) (b4:Bool) (B2:OA) (m2 d2:Nat) (w:Wo) (h1:dE w w.heap.size p b1 A n c b2 A2 n2 c2) (h2:dE w w.heap.size q b3 B m d b4 B2 m2 d2) (hs:bU p+bU q+1<=35184372088832) :
    Calls Tryz.prog 69 #[.agg #[.bool b1,.slice A n c,.bool b2,.slice A2 n2 c2],.agg #[.bool b3,.slice B m d,.bool b4,.slice B2 m2 d2]] w (YZ (p+q) w):=by
 have l1:=h1.n_le;have l2:=h1.m_le;have l3:=h2.n_le;have l4:=h2.m_le;have dB:Hid (Below w.heap.size w (((w.alloc (.cells #[.bool b1,.slice A n c,.bool b2,.slice A2 n2 c2] 115)).alloc (.cells #[.bool b3,.slice B m d,.bool b4,.slice B2 m2 d2] 115)).alloc (.cells #[.bool false,.slice none 0 0,.bool false,.slice none 0 0] 115))):=lH (((bA).alloc (by simp) _).alloc (by simp;omega) _);have cJ:Hid (aG (((w.alloc (.cells #[.bool b1,.slice A n c,.bool b2,.slice A2 n2 c2] 115)).alloc (.cells #[.bool b3,.slice B m d,.bool b4,.slice B2 m2 d2] 115)).alloc (.cells #[.bool false,.slice none 0 0,.bool false,.slice none 0 0] 115)) w.heap.size 115 #[.bool b1,.slice A n c,.bool b2,.slice A2 n2 c2]):=lH (((aG.new w _ _).alloc _).alloc _)
 have dI:Hid (aG (((w.alloc (.cells #[.bool b1,.slice A n c,.bool b2,.slice A2 n2 c2] 115)).alloc (.cells #[.bool b3,.slice B m d,.bool b4,.slice B2 m2 d2] 115)).alloc (.cells #[.bool false,.slice none 0 0,.bool false,.slice none 0 0] 115)) (w.heap.size+1) 115 #[.bool b3,.slice B m d,.bool b4,.slice B2 m2 d2]):=lH ((aG.new_ (by simp)).alloc _);have HR:Hid (aG (((w.alloc (.cells #[.bool b1,.slice A n c,.bool b2,.slice A2 n2 c2] 115)).alloc (.cells #[.bool b3,.slice B m d,.bool b4,.slice B2 m2 d2] 115)).alloc (.cells #[.bool false,.slice none 0 0,.bool false,.slice none 0 0] 115)) (w.heap.size+1+1) 115 #[.bool false,.slice none 0 0,.bool false,.slice none 0 0]):=lH (aG.new_ (by simp));have qK:w.heap.size<=w.heap.size+1+1:=by omega
 have H1:=lH (h1.up dB.o);have H2:=lH (h2.up dB.o);clear h1 h2;go_enter Tryz.func69,Tryz.ntmps69
 go_upto_region 1 with fail
 generalize (((w.alloc (.cells #[.bool b1,.slice A n c,.bool b2,.slice A2 n2 c2] 115)).alloc (.cells #[.bool b3,.slice B m d,.bool b4,.slice B2 m2 d2] 115)).alloc (.cells #[.bool false,.slice none 0 0,.bool false,.slice none 0 0] 115))=W at *;have p0:=cJ.o.cell 0;have p1:=cJ.o.cell 1;have p2:=cJ.o.cell 2;have p3:=cJ.o.cell 3;have pl:=cJ.o.lt;have q0:=dI.o.cell 0;have q1:=dI.o.cell 1;have q2:=dI.o.cell 2;have q3:=dI.o.cell 3;have ql:=dI.o.lt;have bK:=lH (aD (Below.refl W.heap.size W));refine aJ (S:=fun w'=>Below W.heap.size W w') 17 _ (by kernel_rfl) (by kernel_rfl) rfl bK.o (fun hHeld=>?_);simp only [lA,List.take_zero];refine aL 0 rfl ?_;refine aL 1 rfl ?_;refine aL 2 rfl ?_;refine aL 3 rfl ?_;refine aL 5 rfl ?_;refine aL 6 rfl ?_;refine aL 7 rfl ?_;refine aL 8 rfl ?_;refine aL 11 rfl ?_;refine aL 12 rfl ?_;refine aL 13 rfl ?_
 refine aL 14 rfl ?_;refine aU 4 (by kernel_rfl) rfl (fun K hK=>?_);go_simp;refine (iO (p.num) ((q.den:Int)) b1 A n c b4 B2 m2 d2 _ (H1.o.up bK.o).num (H2.o.up bK.o).den (by omega)).mono ?_;rintro e w5 ⟨eD,f5,C5,i5,j5,rfl,h5⟩;have dX:=lH (bK.o.tm eD);have H5:=lH h5;have s5:i5<=m2+n:=by rw [h5.en,((H1.o.up bK.o).num).en,((H2.o.up bK.o).den).en,Nat.add_comm];exact eT _ _
 clear eD h5;go_simp;refine hK.out _ _ ?_ (fun hHeld=>?_)
 ·exact dX.o
 clear hK K
 try simp only [Act.put,bP,bO,bN]
 refine aU 9 (by kernel_rfl) rfl (fun K hK=>?_);go_simp;refine (iO (q.num) ((p.den:Int)) b3 B m d b2 A2 n2 c2 _ (H2.o.up dX.o).num (H1.o.up dX.o).den (by omega)).mono ?_;rintro e w6 ⟨fQ,f6,C6,i6,j6,rfl,h6⟩;have fV:=lH (dX.o.tm fQ);have H6:=lH h6;have s6:i6<=n2+m:=by rw [h6.en,((H2.o.up dX.o).num).en,((H1.o.up dX.o).den).en,Nat.add_comm];exact eT _ _
 have H5_6:=lH (H5.o.up fQ);clear fQ h6;go_simp;refine hK.out _ _ ?_ (fun hHeld=>?_)
 ·exact fV.o
 clear hK K
 try simp only [Act.put,bP,bO,bN]
 refine aU 10 (by kernel_rfl) rfl (fun K hK=>?_);go_simp;refine (NM (p.num*(q.den:Int)) (q.num*(p.den:Int)) f5 C5 i5 j5 f6 C6 i6 j6 _ H5_6.o H6.o (by omega) (by omega)).mono ?_;rintro e w7 ⟨gY,f7,C7,i7,j7,rfl,h7⟩;have iM:=lH (fV.o.tm gY);have H7:=lH h7;have s7:i7<=max i5 i6+1:=by rw [h7.en,H5_6.o.en,H6.o.en];exact LJ _ _
 clear gY h7;go_simp;refine hK.out _ _ ?_ (fun hHeld=>?_)
 ·exact iM.o
 clear hK K
 try simp only [Act.put,bP,bO,bN]
 refine aU 15 (by kernel_rfl) rfl (fun K hK=>?_);go_simp;refine (iO ((p.den:Int)) ((q.den:Int)) b2 A2 n2 c2 b4 B2 m2 d2 _ (H1.o.up iM.o).den (H2.o.up iM.o).den (by omega)).mono ?_;rintro e w8 ⟨e_,f8,C8,i8,j8,rfl,h8⟩;have dF:=lH (iM.o.tm e_);have H8:=lH h8;have s8:i8<=m2+n2:=by rw [h8.en,((H1.o.up iM.o).den).en,((H2.o.up iM.o).den).en,Nat.add_comm];exact eT _ _
 have H7_8:=lH (H7.o.up e_);clear e_ h8;go_simp;refine hK.out _ _ ?_ (fun hHeld=>?_)
 ·exact dF.o
 clear hK K
 try simp only [Act.put,bP,bO,bN]
 refine aU 16 (by kernel_rfl) rfl (fun K hK=>?_);go_simp;refine (vP (p.num*(q.den:Int)+q.num*(p.den:Int)) ((p.den:Int)*(q.den:Int)) f7 C7 i7 j7 f8 C8 i8 j8 _ H7_8.o H8.o (DI p q) (by omega) (by omega)).mono ?_;rw [VW];rintro e w9 ⟨gE,f9,C9,i9,j9,f9d,C9d,i9d,j9d,rfl,h9⟩;have cQ:=lH (dF.o.tm gE);have H9:=lH h9;clear gE h9;go_simp;refine hK.out _ _ ?_ (fun hHeld=>?_)
 ·exact cQ.o
 clear hK K
 try simp only [Act.put,bP,bO,bN]
 refine wpAnyH_done (by kernel_rfl) ?_ _;refine aP (by rfl) ?_;have CU:=lH (dB.o.tm cQ.o);have eP:=lH (HR.o.bl cQ.o);clear p0 p1 p2 p3 q0 q1 q2 q3 pl ql;have z0:=eP.o.cell 0;have z1:=eP.o.cell 1;have z2:=eP.o.cell 2;have z3:=eP.o.cell 3;have zf:=eP.o.frozen;have zl:=eP.o.lt
 go_wp2_with fail
 generalize fD:(((w9.setCell ⟨_,0,none⟩ _).setCell ⟨_,1,none⟩ _).setCell ⟨_,2,none⟩ _).setCell ⟨_,3,none⟩ _=W9;have iK:=lH (mO (e:=.returned (.agg #[.bool f9,.slice C9 i9 j9,.bool f9d,.slice C9d i9d j9d])) CU.o qK eP.o (by simp) (by simp) (by simp) (by simp) H9.o rfl);rw [fD] at iK;have cQ:Hid (aG W9 _ 115 #[.bool f9,.slice C9 i9 j9,.bool f9d,.slice C9d i9d j9d]):=lH (by rw [<-fD];exact fO eP.o);clear fD z0 z1 z2 z3 zf zl;have q0:=cQ.o.cell 0;have q1:=cQ.o.cell 1;have q2:=cQ.o.cell 2;have q3:=cQ.o.cell 3;exact bodyPost_ret (v:=.agg #[.bool f9,.slice C9 i9 j9,.bool f9d,.slice C9d i9d j9d]) (by simp [results,Tryz.results69,go_sem,q0,q1,q2,q3]) rfl iK.o
theorem PH (p q:Rat) (b1:Bool) (A:OA) (n c:Nat) (b2:Bool) (A2:OA) (n2 c2:Nat) (b3:Bool) (B:OA) (m d:Nat) (b4:Bool) (B2:OA) (m2 d2:Nat) (w:Wo) (h1:dE w w.heap.size p b1 A n c b2 A2 n2 c2) (h2:dE w w.heap.size q b3 B m d b4 B2 m2 d2) (hs:bU p+bU q+1<=35184372088832) :
    Calls Tryz.prog 118 #[.agg #[.bool b1,.slice A n c,.bool b2,.slice A2 n2 c2],.agg #[.bool b3,.slice B m d,.bool b4,.slice B2 m2 d2]] w (fun e w'=>e=.returned (.int .i64 (p.num*(q.den:Int)-q.num*(p.den:Int)).sign)/\Below w.heap.size w w'):=by
 have l1:=h1.n_le;have l2:=h1.m_le;have l3:=h2.n_le;have l4:=h2.m_le;have dB:Hid (Below w.heap.size w ((w.alloc (.cells #[.bool b1,.slice A n c,.bool b2,.slice A2 n2 c2] 115)).alloc (.cells #[.bool b3,.slice B m d,.bool b4,.slice B2 m2 d2] 115))):=lH ((bA).alloc (by simp) _);have cJ:Hid (aG ((w.alloc (.cells #[.bool b1,.slice A n c,.bool b2,.slice A2 n2 c2] 115)).alloc (.cells #[.bool b3,.slice B m d,.bool b4,.slice B2 m2 d2] 115)) w.heap.size 115 #[.bool b1,.slice A n c,.bool b2,.slice A2 n2 c2]):=lH ((aG.new w _ _).alloc _);have dI:Hid (aG ((w.alloc (.cells #[.bool b1,.slice A n c,.bool b2,.slice A2 n2 c2] 115)).alloc (.cells #[.bool b3,.slice B m d,.bool b4,.slice B2 m2 d2] 115)) (w.heap.size+1) 115 #[.bool b3,.slice B m d,.bool b4,.slice B2 m2 d2]):=lH (aG.new_ (by simp));have H1:=lH (h1.up dB.o);have H2:=lH (h2.up dB.o);clear h1 h2
 go_enter Tryz.func118,Tryz.ntmps118
 go_upto_region 1 with fail
 generalize ((w.alloc (.cells #[.bool b1,.slice A n c,.bool b2,.slice A2 n2 c2] 115)).alloc (.cells #[.bool b3,.slice B m d,.bool b4,.slice B2 m2 d2] 115))=W at *;have p0:=cJ.o.cell 0;have p1:=cJ.o.cell 1;have p2:=cJ.o.cell 2;have p3:=cJ.o.cell 3;have pl:=cJ.o.lt;have q0:=dI.o.cell 0;have q1:=dI.o.cell 1;have q2:=dI.o.cell 2;have q3:=dI.o.cell 3;have ql:=dI.o.lt;have bK:=lH (aD (Below.refl W.heap.size W));refine aJ (S:=fun w'=>Below W.heap.size W w') 11 _ (by kernel_rfl) (by kernel_rfl) rfl bK.o (fun hHeld=>?_);simp only [lA,List.take_zero];refine aL 0 rfl ?_;refine aL 1 rfl ?_;refine aL 2 rfl ?_;refine aL 3 rfl ?_;refine aL 5 rfl ?_;refine aL 6 rfl ?_;refine aL 7 rfl ?_;refine aL 8 rfl ?_;refine aU 4 (by kernel_rfl) rfl (fun K hK=>?_);go_simp
 refine (iO (p.num) ((q.den:Int)) b1 A n c b4 B2 m2 d2 _ (H1.o.up bK.o).num (H2.o.up bK.o).den (by omega)).mono ?_;rintro e w5 ⟨eD,f5,C5,i5,j5,rfl,h5⟩;have dX:=lH (bK.o.tm eD);have H5:=lH h5;have s5:i5<=m2+n:=by rw [h5.en,((H1.o.up bK.o).num).en,((H2.o.up bK.o).den).en,Nat.add_comm];exact eT _ _
 clear eD h5;go_simp;refine hK.out _ _ ?_ (fun hHeld=>?_)
 ·exact dX.o
 clear hK K
 try simp only [Act.put,bP,bO,bN]
 refine aU 9 (by kernel_rfl) rfl (fun K hK=>?_);go_simp;refine (iO (q.num) ((p.den:Int)) b3 B m d b2 A2 n2 c2 _ (H2.o.up dX.o).num (H1.o.up dX.o).den (by omega)).mono ?_;rintro e w6 ⟨fQ,f6,C6,i6,j6,rfl,h6⟩;have fV:=lH (dX.o.tm fQ);have H6:=lH h6;have s6:i6<=n2+m:=by rw [h6.en,((H2.o.up dX.o).num).en,((H1.o.up dX.o).den).en,Nat.add_comm];exact eT _ _
 have H5_6:=lH (H5.o.up fQ);clear fQ h6;go_simp;refine hK.out _ _ ?_ (fun hHeld=>?_)
 ·exact fV.o
 clear hK K
 try simp only [Act.put,bP,bO,bN]
 refine aU 10 (by kernel_rfl) rfl (fun K hK=>?_);go_simp;refine (aIM (p.num*(q.den:Int)) (q.num*(p.den:Int)) f5 C5 i5 j5 f6 C6 i6 j6 _ H5_6.o H6.o (by omega) (by omega)).mono ?_;rintro e w7 ⟨rfl,gY⟩;have iM:=lH (fV.o.tm gY);clear gY;go_simp;refine hK.out _ _ ?_ (fun hHeld=>?_)
 ·exact iM.o
 clear hK K
 try simp only [Act.put,bP,bO,bN]
 refine wpAnyH_done (by kernel_rfl) ?_ _;refine aP (by rfl) ?_
 go_wp2_with fail
 go_ret;exact ⟨rfl,dB.o.tm iM.o⟩
theorem O_ (p:Rat) (b1:Bool) (A:OA) (n c:Nat) (b2:Bool) (A2:OA) (n2 c2:Nat) (w:Wo) (h1:dE w w.heap.size p b1 A n c b2 A2 n2 c2) :
    Calls Tryz.prog 108 #[.agg #[.bool b1,.slice A n c,.bool b2,.slice A2 n2 c2]] w (YZ (-p) w):=by
 have dB:Hid (Below w.heap.size w ((w.alloc (.cells #[.bool b1,.slice A n c,.bool b2,.slice A2 n2 c2] 115)).alloc (.cells #[.bool false,.slice none 0 0,.bool false,.slice none 0 0] 115))):=lH ((bA).alloc (by simp) _);have cJ:Hid (aG ((w.alloc (.cells #[.bool b1,.slice A n c,.bool b2,.slice A2 n2 c2] 115)).alloc (.cells #[.bool false,.slice none 0 0,.bool false,.slice none 0 0] 115)) w.heap.size 115 #[.bool b1,.slice A n c,.bool b2,.slice A2 n2 c2]):=lH ((aG.new w _ _).alloc _);have HR:Hid (aG ((w.alloc (.cells #[.bool b1,.slice A n c,.bool b2,.slice A2 n2 c2] 115)).alloc (.cells #[.bool false,.slice none 0 0,.bool false,.slice none 0 0] 115)) (w.heap.size+1) 115 #[.bool false,.slice none 0 0,.bool false,.slice none 0 0]):=lH (aG.new_ (by simp));have qK:w.heap.size<=w.heap.size+1:=by omega
 have H1:=lH (h1.up dB.o);clear h1;go_enter Tryz.func108,Tryz.ntmps108
 go_upto_region 1 with fail
 generalize ((w.alloc (.cells #[.bool b1,.slice A n c,.bool b2,.slice A2 n2 c2] 115)).alloc (.cells #[.bool false,.slice none 0 0,.bool false,.slice none 0 0] 115))=W at *;have p0:=cJ.o.cell 0;have p1:=cJ.o.cell 1;have p2:=cJ.o.cell 2;have p3:=cJ.o.cell 3;have pl:=cJ.o.lt;have bK:=lH (aD (Below.refl W.heap.size W));refine aJ (S:=fun w'=>Below W.heap.size W w') 6 _ (by kernel_rfl) (by kernel_rfl) rfl bK.o (fun hHeld=>?_);simp only [lA,List.take_zero];refine aL 0 rfl ?_;refine aL 1 rfl ?_;refine aL 3 rfl ?_;refine aL 4 rfl ?_;refine aU 2 (by kernel_rfl) rfl (fun K hK=>?_);go_simp;refine (EU p.num b1 A n c _ (H1.o.up bK.o).num).mono ?_;rintro e w5 ⟨eD,f5,C5,i5,j5,rfl,h5⟩;have dX:=lH (bK.o.tm eD);have H5:Hid (dE w5 w5.heap.size (-p) f5 C5 i5 j5 b2 A2 n2 c2):=lH ⟨h5,(H1.o.up dX.o).den⟩;clear eD h5;go_simp
 refine hK.out _ _ ?_ (fun hHeld=>?_)
 ·exact dX.o
 clear hK K
 try simp only [Act.put,bP,bO,bN]
 refine aL 5 rfl ?_;refine wpAnyH_done (by kernel_rfl) ?_ _;refine aP (by rfl) ?_;have CU:=lH (dB.o.tm dX.o);have eP:=lH (HR.o.bl dX.o);clear p0 p1 p2 p3 pl;have z0:=eP.o.cell 0;have z1:=eP.o.cell 1;have z2:=eP.o.cell 2;have z3:=eP.o.cell 3;have zf:=eP.o.frozen;have zl:=eP.o.lt
 go_wp2_with fail
 generalize fD:(((w5.setCell ⟨_,0,none⟩ _).setCell ⟨_,1,none⟩ _).setCell ⟨_,2,none⟩ _).setCell ⟨_,3,none⟩ _=W9;have iK:=lH (mO (e:=.returned (.agg #[.bool f5,.slice C5 i5 j5,.bool b2,.slice A2 n2 c2])) CU.o qK eP.o (by simp) (by simp) (by simp) (by simp) H5.o rfl);rw [fD] at iK;have cQ:Hid (aG W9 _ 115 #[.bool f5,.slice C5 i5 j5,.bool b2,.slice A2 n2 c2]):=lH (by rw [<-fD];exact fO eP.o);clear fD z0 z1 z2 z3 zf zl;have q0:=cQ.o.cell 0;have q1:=cQ.o.cell 1;have q2:=cQ.o.cell 2;have q3:=cQ.o.cell 3;exact bodyPost_ret (v:=.agg #[.bool f5,.slice C5 i5 j5,.bool b2,.slice A2 n2 c2]) (by simp [results,Tryz.results108,go_sem,q0,q1,q2,q3]) rfl iK.o
theorem aCN (p q:Rat) (b1:Bool) (A:OA) (n c:Nat) (b2:Bool) (A2:OA) (n2 c2:Nat) (b3:Bool) (B:OA) (m d:Nat) (b4:Bool) (B2:OA) (m2 d2:Nat) (w:Wo) (h1:dE w w.heap.size p b1 A n c b2 A2 n2 c2) (h2:dE w w.heap.size q b3 B m d b4 B2 m2 d2) (hs:bU p+bU q+1<=35184372088832) :
    Calls Tryz.prog 68 #[.agg #[.bool b1,.slice A n c,.bool b2,.slice A2 n2 c2],.agg #[.bool b3,.slice B m d,.bool b4,.slice B2 m2 d2]] w (YZ (p-q) w):=by
 have l1:=h1.n_le;have l2:=h1.m_le;have l3:=h2.n_le;have l4:=h2.m_le;have dB:Hid (Below w.heap.size w (((w.alloc (.cells #[.bool b1,.slice A n c,.bool b2,.slice A2 n2 c2] 115)).alloc (.cells #[.bool b3,.slice B m d,.bool b4,.slice B2 m2 d2] 115)).alloc (.cells #[.bool false,.slice none 0 0,.bool false,.slice none 0 0] 115))):=lH (((bA).alloc (by simp) _).alloc (by simp;omega) _);have cJ:Hid (aG (((w.alloc (.cells #[.bool b1,.slice A n c,.bool b2,.slice A2 n2 c2] 115)).alloc (.cells #[.bool b3,.slice B m d,.bool b4,.slice B2 m2 d2] 115)).alloc (.cells #[.bool false,.slice none 0 0,.bool false,.slice none 0 0] 115)) w.heap.size 115 #[.bool b1,.slice A n c,.bool b2,.slice A2 n2 c2]):=lH (((aG.new w _ _).alloc _).alloc _)
 have dI:Hid (aG (((w.alloc (.cells #[.bool b1,.slice A n c,.bool b2,.slice A2 n2 c2] 115)).alloc (.cells #[.bool b3,.slice B m d,.bool b4,.slice B2 m2 d2] 115)).alloc (.cells #[.bool false,.slice none 0 0,.bool false,.slice none 0 0] 115)) (w.heap.size+1) 115 #[.bool b3,.slice B m d,.bool b4,.slice B2 m2 d2]):=lH ((aG.new_ (by simp)).alloc _);have HR:Hid (aG (((w.alloc (.cells #[.bool b1,.slice A n c,.bool b2,.slice A2 n2 c2] 115)).alloc (.cells #[.bool b3,.slice B m d,.bool b4,.slice B2 m2 d2] 115)).alloc (.cells #[.bool false,.slice none 0 0,.bool false,.slice none 0 0] 115)) (w.heap.size+1+1) 115 #[.bool false,.slice none 0 0,.bool false,.slice none 0 0]):=lH (aG.new_ (by simp));have qK:w.heap.size<=w.heap.size+1+1:=by omega
 have H1:=lH (h1.up dB.o);have H2:=lH (h2.up dB.o);clear h1 h2;go_enter Tryz.func68,Tryz.ntmps68
 go_upto_region 1 with fail
 generalize (((w.alloc (.cells #[.bool b1,.slice A n c,.bool b2,.slice A2 n2 c2] 115)).alloc (.cells #[.bool b3,.slice B m d,.bool b4,.slice B2 m2 d2] 115)).alloc (.cells #[.bool false,.slice none 0 0,.bool false,.slice none 0 0] 115))=W at *;have p0:=cJ.o.cell 0;have p1:=cJ.o.cell 1;have p2:=cJ.o.cell 2;have p3:=cJ.o.cell 3;have pl:=cJ.o.lt;have q0:=dI.o.cell 0;have q1:=dI.o.cell 1;have q2:=dI.o.cell 2;have q3:=dI.o.cell 3;have ql:=dI.o.lt;have bK:=lH (aD (Below.refl W.heap.size W));refine aJ (S:=fun w'=>Below W.heap.size W w') 4 _ (by kernel_rfl) (by kernel_rfl) rfl bK.o (fun hHeld=>?_);simp only [lA,List.take_zero];refine aL 0 rfl ?_;refine aL 1 rfl ?_;refine aU 2 (by kernel_rfl) rfl (fun K hK=>?_);go_simp;refine (O_ q b3 B m d b4 B2 m2 d2 _ (H2.o.up bK.o)).mono ?_;rintro e w5 ⟨eD,f5,C5,i5,j5,f5d,C5d,i5d,j5d,rfl,h5⟩
 have dX:=lH (bK.o.tm eD);have H5:=lH h5;clear eD h5;go_simp;refine hK.out _ _ ?_ (fun hHeld=>?_)
 ·exact dX.o
 clear hK K
 try simp only [Act.put,bP,bO,bN]
 refine aU 3 (by kernel_rfl) rfl (fun K hK=>?_);go_simp;refine (F4 p (-q) b1 A n c b2 A2 n2 c2 f5 C5 i5 j5 f5d C5d i5d j5d _ (H1.o.up dX.o) H5.o (by rw [qH];exact hs)).mono ?_;rw [<-Rat.sub_eq_add_neg];rintro e w7 ⟨gY,f7,C7,i7,j7,f7d,C7d,i7d,j7d,rfl,h7⟩;have iM:=lH (dX.o.tm gY);have H7:=lH h7;clear gY h7;go_simp;refine hK.out _ _ ?_ (fun hHeld=>?_)
 ·exact iM.o
 clear hK K
 try simp only [Act.put,bP,bO,bN]
 refine wpAnyH_done (by kernel_rfl) ?_ _;refine aP (by rfl) ?_;have CU:=lH (dB.o.tm iM.o);have eP:=lH (HR.o.bl iM.o);clear p0 p1 p2 p3 q0 q1 q2 q3 pl ql;have z0:=eP.o.cell 0;have z1:=eP.o.cell 1;have z2:=eP.o.cell 2;have z3:=eP.o.cell 3;have zf:=eP.o.frozen;have zl:=eP.o.lt
 go_wp2_with fail
 generalize fD:(((w7.setCell ⟨_,0,none⟩ _).setCell ⟨_,1,none⟩ _).setCell ⟨_,2,none⟩ _).setCell ⟨_,3,none⟩ _=W9;have iK:=lH (mO (e:=.returned (.agg #[.bool f7,.slice C7 i7 j7,.bool f7d,.slice C7d i7d j7d])) CU.o qK eP.o (by simp) (by simp) (by simp) (by simp) H7.o rfl);rw [fD] at iK;have cQ:Hid (aG W9 _ 115 #[.bool f7,.slice C7 i7 j7,.bool f7d,.slice C7d i7d j7d]):=lH (by rw [<-fD];exact fO eP.o);clear fD z0 z1 z2 z3 zf zl;have q0:=cQ.o.cell 0;have q1:=cQ.o.cell 1;have q2:=cQ.o.cell 2;have q3:=cQ.o.cell 3;exact bodyPost_ret (v:=.agg #[.bool f7,.slice C7 i7 j7,.bool f7d,.slice C7d i7d j7d]) (by simp [results,Tryz.results68,go_sem,q0,q1,q2,q3]) rfl iK.o
theorem Z0 (p:Rat) (b1:Bool) (A:OA) (n c:Nat) (b2:Bool) (A2:OA) (n2 c2:Nat) (w:Wo) (h1:dE w w.heap.size p b1 A n c b2 A2 n2 c2) :
    Calls Tryz.prog 119 #[.agg #[.bool b1,.slice A n c,.bool b2,.slice A2 n2 c2]] w fun e w'=>e=.returned (.int .i64 p.num.sign)/\Below w.heap.size w w':=by
 have dB:Hid (Below w.heap.size w (w.alloc (.cells #[.bool b1,.slice A n c,.bool b2,.slice A2 n2 c2] 115))):=lH (bA);have cJ:=lH (aG.new w 115 #[.bool b1,.slice A n c,.bool b2,.slice A2 n2 c2]);have H1:=lH (h1.up dB.o);clear h1;go_enter Tryz.func119,Tryz.ntmps119
 go_upto_region 1 with fail
 generalize w.alloc (.cells #[.bool b1,.slice A n c,.bool b2,.slice A2 n2 c2] 115)=W at *;have p0:=cJ.o.cell 0;have p1:=cJ.o.cell 1;have p2:=cJ.o.cell 2;have p3:=cJ.o.cell 3;have pl:=cJ.o.lt
 go_wp2_with fail
 refine (B9 p.num b1 A n c W H1.o.num).mono ?_;rintro e w1 ⟨rfl,bH⟩;have bS:=lH (dB.o.tm bH);clear bH
 go_wp2_with fail
 go_ret;exact ⟨rfl,bS.o⟩
theorem ZD (k:Int) (w:Wo) (h0:-9223372036854775808<=k) (h1:k<=9223372036854775807) :
    Calls Tryz.prog 66 #[.int .i64 k] w (YZ (k:Rat) w):=by
 have dB:Hid (Below w.heap.size w (w.alloc (.cells #[.bool false,.slice none 0 0,.bool false,.slice none 0 0] 115))):=lH (bA);have HR:Hid (aG (w.alloc (.cells #[.bool false,.slice none 0 0,.bool false,.slice none 0 0] 115)) w.heap.size 115 #[.bool false,.slice none 0 0,.bool false,.slice none 0 0]):=lH (aG.new w _ _);have qK:w.heap.size<=w.heap.size:=lR;go_enter Tryz.func66,Tryz.ntmps66
 go_upto_region 1 with fail
 generalize (w.alloc (.cells #[.bool false,.slice none 0 0,.bool false,.slice none 0 0] 115))=W at *
 go_wp2_with fail
 refine (xV k W h0 h1).mono ?_;rintro e w1 ⟨bH,f5,C5,i5,j5,rfl,h5⟩;have bS:=lH (dB.o.tm bH);have tV:=lH (HR.o.bl bH);have H5:=lH h5;clear bH h5
 go_wp2_with fail
 refine (xV 1 w1 (by decide) (by decide)).mono ?_;rintro e w2 ⟨bL,f6,C6,i6,j6,rfl,h6⟩;have bW:=lH (bS.o.tm bL);have sC:=lH (tV.o.bl bL);have HQ:Hid (dE w2 w2.heap.size (k:Rat) f5 C5 i5 j5 f6 C6 i6 j6):=lH ⟨by rw [Rat.num_intCast];exact H5.o.up bL,by rw [Rat.den_intCast];exact h6⟩;clear bL h6 dB HR bS tV;have z0:=sC.o.cell 0;have z1:=sC.o.cell 1;have z2:=sC.o.cell 2;have z3:=sC.o.cell 3;have zf:=sC.o.frozen;have zl:=sC.o.lt
 go_wp2_with fail
 generalize fD:(((w2.setCell ⟨_,0,none⟩ _).setCell ⟨_,1,none⟩ _).setCell ⟨_,2,none⟩ _).setCell ⟨_,3,none⟩ _=W9;have iK:=lH (mO (e:=.returned (.agg #[.bool f5,.slice C5 i5 j5,.bool f6,.slice C6 i6 j6])) bW.o qK sC.o (by simp) (by simp) (by simp) (by simp) HQ.o rfl);rw [fD] at iK;have cQ:Hid (aG W9 _ 115 #[.bool f5,.slice C5 i5 j5,.bool f6,.slice C6 i6 j6]):=lH (by rw [<-fD];exact fO sC.o);clear fD z0 z1 z2 z3 zf zl;have q0:=cQ.o.cell 0;have q1:=cQ.o.cell 1;have q2:=cQ.o.cell 2;have q3:=cQ.o.cell 3;exact bodyPost_ret (v:=.agg #[.bool f5,.slice C5 i5 j5,.bool f6,.slice C6 i6 j6]) (by simp [results,Tryz.results66,go_sem,q0,q1,q2,q3]) rfl iK.o
theorem aER (k d:Int) (w:Wo) (h0:-9223372036854775808<=k) (h1:k<=9223372036854775807) (h2:-9223372036854775808<=d) (h3:d<=9223372036854775807) (hd:d≠0) :
    Calls Tryz.prog 92 #[.int .i64 k,.int .i64 d] w (YZ (Rat.divInt k d) w):=by
 have dB:Hid (Below w.heap.size w (w.alloc (.cells #[.bool false,.slice none 0 0,.bool false,.slice none 0 0] 115))):=lH (bA);have HR:Hid (aG (w.alloc (.cells #[.bool false,.slice none 0 0,.bool false,.slice none 0 0] 115)) w.heap.size 115 #[.bool false,.slice none 0 0,.bool false,.slice none 0 0]):=lH (aG.new w _ _);have qK:w.heap.size<=w.heap.size:=lR;have sz:∀ z:Int,-9223372036854775808<=z->z<=9223372036854775807->dK z.natAbs<=2:=fun z a b=>jV (by show _<4294967296^2;omega);have s1:=sz k h0 h1;have s2:=sz d h2 h3;clear sz;go_enter Tryz.func92,Tryz.ntmps92
 go_upto_region 1 with fail
 generalize (w.alloc (.cells #[.bool false,.slice none 0 0,.bool false,.slice none 0 0] 115))=W at *
 go_wp2_with fail
 refine (xV k W h0 h1).mono ?_;rintro e w1 ⟨bH,f5,C5,i5,j5,rfl,h5⟩;have bS:=lH (dB.o.tm bH);have tV:=lH (HR.o.bl bH);have H5:=lH h5;clear bH h5
 go_wp2_with fail
 refine (xV d w1 h2 h3).mono ?_;rintro e w2 ⟨bL,f6,C6,i6,j6,rfl,h6⟩;have bW:=lH (bS.o.tm bL);have sC:=lH (tV.o.bl bL);have H52:=lH (H5.o.up bL);have H62:=lH h6;clear bL h6 dB HR bS tV H5
 go_wp2_with fail
 refine (vP k d f5 C5 i5 j5 f6 C6 i6 j6 w2 H52.o H62.o hd (by rw [H52.o.en];omega) (by rw [H62.o.en];omega)).mono ?_;rintro e w3 ⟨cR,f7,C7,i7,j7,f7d,C7d,i7d,j7d,rfl,h7⟩;have dR:=lH (bW.o.tm cR);have sY:=lH (sC.o.bl cR);have H7:=lH h7;clear cR h7 bW sC H52 H62;have z0:=sY.o.cell 0;have z1:=sY.o.cell 1;have z2:=sY.o.cell 2;have z3:=sY.o.cell 3;have zf:=sY.o.frozen;have zl:=sY.o.lt
 go_wp2_with fail
 generalize fD:(((w3.setCell ⟨_,0,none⟩ _).setCell ⟨_,1,none⟩ _).setCell ⟨_,2,none⟩ _).setCell ⟨_,3,none⟩ _=W9;have iK:=lH (mO (e:=.returned (.agg #[.bool f7,.slice C7 i7 j7,.bool f7d,.slice C7d i7d j7d])) dR.o qK sY.o (by simp) (by simp) (by simp) (by simp) H7.o rfl);rw [fD] at iK;have cQ:Hid (aG W9 _ 115 #[.bool f7,.slice C7 i7 j7,.bool f7d,.slice C7d i7d j7d]):=lH (by rw [<-fD];exact fO sY.o);clear fD z0 z1 z2 z3 zf zl;have q0:=cQ.o.cell 0;have q1:=cQ.o.cell 1;have q2:=cQ.o.cell 2;have q3:=cQ.o.cell 3;exact bodyPost_ret (v:=.agg #[.bool f7,.slice C7 i7 j7,.bool f7d,.slice C7d i7d j7d]) (by simp [results,Tryz.results92,go_sem,q0,q1,q2,q3]) rfl iK.o
end

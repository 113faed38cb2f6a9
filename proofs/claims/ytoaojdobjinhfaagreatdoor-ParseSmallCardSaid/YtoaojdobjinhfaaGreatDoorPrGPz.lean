/- The program's printer: lines, walked. Printed by gen_plines.py. -/
import Derived.Test.YtoaojdobjinhfaaGreatDoorPrEPz
set_option linter.unusedSimpArgs false
set_option linter.unusedVariables false
set_option maxRecDepth 100000
set_option maxHeartbeats 8000000
namespace Go.Proofs.YtoaojdobjinhfaaGreatDoor
open Go.RowKit

theorem zhf(tabs:List UInt8):∀(a b:List St),zaM tabs (a++b)=zaM tabs a++zaM tabs b:=by
 intro a
 induction a with
 | nil=>intro b;rw[zaM];rfl
 | cons x r ih =>
  intro b;rw[List.cons_append,zaM,zaM,ih];simp only[List.append_assoc]
theorem zkt{tabs:List UInt8}{l:List St}{k:Nat}{x:St}(h:l[k]? = some x):zaM tabs (l.take (k+1))=zaM tabs (l.take k)++(tabs++oneW tabs x++[10])/\(zaM tabs (l.take (k+1))).length<=(zaM tabs l).length:=by
 constructor
 ·rw[List.take_add_one,h,zhf];congr 1
  show zaM tabs [x]=_;rw[zaM,zaM,List.append_nil]
 ·conv=>rhs;rw[<-List.take_append_drop (k+1) l,zhf,yA]
  omega
theorem SsL.mono{w:World}{B B':Nat}{xs:List St}{v:Value}(h:SsL w B xs v)(d:B<=B'):SsL w B' xs v:=by
 obtain⟨cs,i,f,j⟩:=h;exact⟨cs,i,f.imp id fun k g e=>Nat.lt_of_lt_of_le (k g e) d,j.weak fun g _ hg=>Nat.lt_of_lt_of_le hg d⟩
theorem zlI(w:World):Calls Tryz.prog 50 #[] w fun e w'=>e=.returned (.slice (some ⟨w.heap.size,0,none⟩) 11 11)/\OwnV w' w.heap.size 9 (kindWordsP.map fun s=>Value.string (bstr s))/\Below w.heap.size w w':=by
 go_enter Tryz.func50,Tryz.ntmps50
 go_wp2;go_ret;exact⟨rfl,OwnV.new w 9 (kindWordsP.map fun s=>Value.string (bstr s)),(yR _ _).alloc (zr _) _⟩
theorem zgv{w0:World}{B d D:Nat}(hG:Glob w0)(ah:glB<=B)(l:List St)(aG:∀s∈l,ShpT (d+1) s)
  (aN:l≠[]->∀l',(∀s∈l',ShpT d s)->LnC w0 B D l') (aH:l≠[]->∀s,ShpT (d+1) s->opT s=4->BrC w0 B (D+1) s):LnC w0 B (D+1) l:=by
 intro v w b bs tabs aS hB hL aq aD ax;obtain⟨la,lc,rfl,bp,bq⟩:=hL.form;have bE:=zmf Tryz.prog
 have bM:=zhy;have bm:=zh aS;have HL:=zh hL;have aI:=zh ax;have bD:=aq.lt;have bL:=aq.ge;have bJ:(bstr tabs).size<=100:=by rw[zaC];omega
 have HG:=zh hG;have aO:=zh aG;have aA:=zh aN;have aP:=zh aH;have bC:(l.length:Int)<=9223372036854775807:=by omega
 have aT:=zh aD;clear aS hL ax hG aG aN aH aD;go_enter Tryz.func54,Tryz.ntmps54
 go_wp2_with fail
 go_loopw [7,8,11,12,13,14,15,16,17,18,19,20,21,22,23,24,25,26,27,28,29,30,31,32,33,34,35,36,37,38,39,40,41,42,43,44,45,46,47,48,49,50,51,52,53,54,55,56,57,58,59,60,61,62,63,64,65,66,67,68,69,70,71,72,73,74,75,76,77,78,79,80,81,82,83,84,85,86,87,88,89,90,91,92,93,94] (fun _ _ t11 _ _ _ _ _ _ _ _ _ _ _ _ _ _ _ _ _ _ _ _ _ _ _ _ _ _ _ _ _ _ _ _ _ _ _ _ _ _ _ _ _ _ _ _ _ _ _ _ _ _ _ _ _ _ _ _ _ _ _ _ _ _ _ _ _ _ _ _ _ _ _ _ _ _ _ _ _ _ _ _ _ _ _ wr=>∃k:Nat,t11=.int .i64 k/\k<=l.length/\Hid (Bd wr B b (bs++zaM tabs (l.take k)))/\Hid (Kp B b w wr)) (fun _ _ t11 _ _ _ _ _ _ _ _ _ _ _ _ _ _ _ _ _ _ _ _ _ _ _ _ _ _ _ _ _ _ _ _ _ _ _ _ _ _ _ _ _ _ _ _ _ _ _ _ _ _ _ _ _ _ _ _ _ _ _ _ _ _ _ _ _ _ _ _ _ _ _ _ _ _ _ _ _ _ _ _ _ _ _ _=>l.length-(intOf t11).toNat)
 case atStart=>exact⟨0,by first|rfl|go_num,by omega,zh (by rw[List.take_zero,zaM,List.append_nil];exact aq),zh (Kp.refl _ _ _)⟩
 case round =>
  clear aq;obtain⟨k,rfl,hk,HD,HK⟩:=hrel;have bF:=HK.out.size;obtain ak|ak:k=l.length∨k<l.length:=by omega
  ·have bf:¬((k:Int)<(l.length:Int)):=by omega
   have hD:Bd wr B b (bs++zaM tabs l):=by have:=HD.out;rwa[ak,List.take_length] at this
   have bd:=zh hD;clear hD HD;go_wp2_with fail
   exact yE (results_none rfl _ _ _) rfl ⟨rfl,bd.out,HK.out⟩
  ·have bf:(k:Int)<(l.length:Int):=by omega
   have bP:(0:Int)<=(k:Int):=by omega
   obtain⟨lb,bw,op,n,name,es,body,els,ae,ce,ab,cb,al,cl,rfl,bH,bA,ay,c0,c1,c2,c3,c4,c5,a8,a3,aZ⟩:=(HL.out.low HK.out.1).at ak;obtain⟨ad,am⟩:=zkt (tabs:=tabs) ay;have aM:=aO.out _ (List.mem_of_getElem? ay);have aQ:l≠[]:=fun e=>by rw[e] at ak;simp at ak
   have a7:=aP.out aQ _ aM;have aA:=zh (aA.out aQ);rw[ad,yA,yA,yA] at am;obtain⟨PF,ap⟩:∃P,bs++zaM tabs (l.take k)=P:=⟨_,rfl⟩
   have a0:PF.length+(tabs.length+(oneW tabs (.mk op n name es body els)).length+1)<=100000000000000:=by
    have:=aI.out;rw[<-ap,yA];simp only[yB,yL] at am;omega
   rw[ap] at HD
   have Y:Hid (∀W,Bd W B b (PF++tabs++oneW tabs (.mk op n name es body els)++[10])->Bd W B b (bs++zaM tabs (l.take (k+1)))):=zh (fun W h=>by
    rw[ad,<-List.append_assoc,ap]
    simpa only[List.append_assoc] using h)
   obtain⟨W2,aY,O,aE⟩:∃W2,W2=wr.alloc (.cells #[.int .u8 op,.int .i64 n,.string (bstr name),.slice ae es.length ce,.slice ab body.length cb,.slice al els.length cl] 56)/\Below wr.heap.size wr W2/\OwnV W2 wr.heap.size 56 [.int .u8 op,.int .i64 n,.string (bstr name),.slice ae es.length ce,.slice ab body.length cb,.slice al els.length cl]:=⟨_,rfl,(yR _ _).alloc (zr _) _,OwnV.new _ _ _⟩;have bh:=zh aY;have a4:=zh (HK.out.trans (Kp.of_below (b:=b) O (by omega)));have aU:=zh aE;have ba:=zh (a8.low (O.mono (by omega)));have aJ:=zh (a3.low (O.mono (by omega)));have aW:=zh (aZ.low (O.mono (by omega)));have bx:=O.size;have g:=zaT tabs (HD.out.below O) (by omega) (by omega);have u:=zh g;have bv:=HD.out.lt;have T:=zh a0;clear aY O aE a8 a3 aZ g ap a0 HD ay ad am aO HL aP;go_upto_region 3 with(fail)
   rw[<-bh.out];clear c0 c1 c2 c3 c4 c5;go_wp2_with fail
   go_at_call 82;refine u.out.mono ?_;rintro e3 I⟨rfl,aL,Z⟩;have bO:=Z.size;have V:=zh (a4.out.trans Z);have G:=zh (Z.own aU.out (by omega) (by decide));have R:=zh (ba.out.low Z.1);have aw:=zh (aJ.out.low Z.1);have a1:=zh (aW.out.low Z.1);have X:=zh aL;have aa:=zh (bm.out.trans V.out.1);have bt:=G.out.lt;clear aL Z u a4 aU ba aJ aW
   generalize hgx:wr.heap.size=gx at *
   have x0:=G.out.cell (i:=0) rfl
   cases aM with
   | @letS _ name e h he =>
    have f:=zju tabs name e;have bj:(bstr name).size<=24:=by rw[zaC];exact zcS (zbG h).1
    have F:Hid (∀W,Below I.heap.size I W->Calls Tryz.prog 83 #[.int .i64 0,.pointer (some ⟨gx,0,none⟩)] W (TxtE (zab e) W)):=zh (fun W hb=>zc4 (i:=0) (y:=e) HG.out ah (G.out.below hb (zr _)) (R.out.low (hb.mono (by omega))) (aa.out.trans (hb.mono (by omega))) (by have:=hb.size;omega) rfl he);obtain⟨S0,E⟩:∃S,bstr (zab e)=S:=⟨_,rfl⟩;have af:S0.size<=1000000000000000:=by rw[<-E,zaC,<-zaL];exact zaE he (by omega) _
    unfold TxtE at F;simp only[E] at F;have C:bstr ([108,101,116,32]++name++[32,61,32]++zab e++[59,10])=((({ data:=#[108,101,116,32] }:ByteArray)++bstr name)++{ data:=#[32,61,32] }++S0)++{ data:=#[59,10] }:=by rw[<-E];simp[zax,zbV]
    have x2:=G.out.cell (i:=2) rfl;go_upto_region 7 with(fail)
    refine zaW 9 (fun w'=>Below I.heap.size I w') (by kernel_rfl) (by kernel_rfl) ((yR _ _).drew) ?_;simp only[List.take_succ_cons,List.take_zero,List.drop_succ_cons,List.drop_zero]
    repeat
     try simp only[Act.put,zs1,zs3,zs2]
     apply stepsSeq.cons
     ·intro w' z;have J:=zh z;have bn:=Below.keep z x2;simp only[Act.put,zs1,zs3,zs2];go_wp2_with (refine(F.out _ J.out).mono ?_;rintro e4 w4⟨rfl,O⟩)
      first|exact⟨rfl,J.out⟩|exact⟨rfl,J.out.trans (O.mono J.out.size)⟩
    try simp only[Act.put,zs1,zs3,zs2]
    refine stepsSeq.nil ?_;intro w' z;have ac:=z.size;have g:=zaT ([108,101,116,32]++name++[32,61,32]++zab e++[59,10]) (X.out.below z) (by omega) (by have:=T.out;rw[f] at this;simp only[yA,yB,yL] at this ⊢;omega);rw[C] at g;have u:=zh g;have U:=zh (V.out.trans (Kp.of_below (b:=b) z (by omega)));clear g z C;go_wp2_with fail
    go_at_call 82;refine u.out.mono ?_;rintro e5 w5⟨rfl,A,m⟩;have L:=zh A;have M:=zh (U.out.trans m);clear A m u x0 x2;go_wp2_with fail
    go_roundw
    case measure=>show l.length-((k:Int)+1).toNat<l.length-(k:Int).toNat;omega
    case rel=>exact⟨k+1,by first|rfl|go_num,by omega,zh (Y.out _ (by have:=L.out;rw[f];simpa only[List.append_assoc,List.cons_append,List.nil_append] using this)),M⟩
   | @setS _ name e h he =>
    have f:=zjv tabs name e;have bj:(bstr name).size<=24:=by rw[zaC];exact zcS (zbG h).1
    have F:Hid (∀W,Below I.heap.size I W->Calls Tryz.prog 83 #[.int .i64 0,.pointer (some ⟨gx,0,none⟩)] W (TxtE (zab e) W)):=zh (fun W hb=>zc4 (i:=0) (y:=e) HG.out ah (G.out.below hb (zr _)) (R.out.low (hb.mono (by omega))) (aa.out.trans (hb.mono (by omega))) (by have:=hb.size;omega) rfl he);obtain⟨S0,E⟩:∃S,bstr (zab e)=S:=⟨_,rfl⟩;have af:S0.size<=1000000000000000:=by rw[<-E,zaC,<-zaL];exact zaE he (by omega) _
    unfold TxtE at F;simp only[E] at F;have C:bstr (name++[32,61,32]++zab e++[59,10])=((bstr name++{ data:=#[32,61,32] })++S0)++{ data:=#[59,10] }:=by rw[<-E];simp[zax,zbV]
    have x2:=G.out.cell (i:=2) rfl;go_upto_region 9 with(fail)
    refine zaW 8 (fun w'=>Below I.heap.size I w') (by kernel_rfl) (by kernel_rfl) ((yR _ _).drew) ?_;simp only[List.take_succ_cons,List.take_zero,List.drop_succ_cons,List.drop_zero]
    repeat
     try simp only[Act.put,zs1,zs3,zs2]
     apply stepsSeq.cons
     ·intro w' z;have J:=zh z;have bn:=Below.keep z x2;simp only[Act.put,zs1,zs3,zs2];go_wp2_with (refine(F.out _ J.out).mono ?_;rintro e4 w4⟨rfl,O⟩)
      first|exact⟨rfl,J.out⟩|exact⟨rfl,J.out.trans (O.mono J.out.size)⟩
    try simp only[Act.put,zs1,zs3,zs2]
    refine stepsSeq.nil ?_;intro w' z;have ac:=z.size;have g:=zaT (name++[32,61,32]++zab e++[59,10]) (X.out.below z) (by omega) (by have:=T.out;rw[f] at this;simp only[yA,yB,yL] at this ⊢;omega);rw[C] at g;have u:=zh g;have U:=zh (V.out.trans (Kp.of_below (b:=b) z (by omega)));clear g z C;go_wp2_with fail
    go_at_call 82;refine u.out.mono ?_;rintro e5 w5⟨rfl,A,m⟩;have L:=zh A;have M:=zh (U.out.trans m);clear A m u x0 x2;go_wp2_with fail
    go_roundw
    case measure=>show l.length-((k:Int)+1).toNat<l.length-(k:Int).toNat;omega
    case rel=>exact⟨k+1,by first|rfl|go_num,by omega,zh (Y.out _ (by have:=L.out;rw[f];simpa only[List.append_assoc,List.cons_append,List.nil_append] using this)),M⟩
   | @putS _ n e e' h0 h1 he he' =>
    have f:=zjw tabs n e e';obtain⟨N,rfl⟩:∃N:Nat,n=(N:Int):=⟨n.toNat,by omega⟩;have bc:1<=N:=by omega
    have bi:N<=10:=by omega
    rw[show((N:Int)-1).toNat=N-1 from by omega] at f;have F:Hid (∀W,Below I.heap.size I W->Calls Tryz.prog 83 #[.int .i64 0,.pointer (some ⟨gx,0,none⟩)] W (TxtE (zab e) W)):=zh (fun W hb=>zc4 (i:=0) (y:=e) HG.out ah (G.out.below hb (zr _)) (R.out.low (hb.mono (by omega))) (aa.out.trans (hb.mono (by omega))) (by have:=hb.size;omega) rfl he);obtain⟨S0,E⟩:∃S,bstr (zab e)=S:=⟨_,rfl⟩;have af:S0.size<=1000000000000000:=by rw[<-E,zaC,<-zaL];exact zaE he (by omega) _
    unfold TxtE at F;simp only[E] at F;have aC:Hid (∀W,Below I.heap.size I W->Calls Tryz.prog 83 #[.int .i64 1,.pointer (some ⟨gx,0,none⟩)] W (TxtE (zab e') W)):=zh (fun W hb=>zc4 (i:=1) (y:=e') HG.out ah (G.out.below hb (zr _)) (R.out.low (hb.mono (by omega))) (aa.out.trans (hb.mono (by omega))) (by have:=hb.size;omega) rfl he');obtain⟨S1,ao⟩:∃S,bstr (zab e')=S:=⟨_,rfl⟩;have bu:S1.size<=1000000000000000:=by rw[<-ao,zaC,<-zaL];exact zaE he' (by omega) _
    unfold TxtE at aC;simp only[ao] at aC;obtain⟨KW,ar⟩:∃K,bstr (kindWords.getD (N-1) [])=K:=⟨_,rfl⟩
    have br:KW.size<=100:=by
     rw[<-ar,zaC];have:=zd7 (n:=(N:Int)) (by omega) (by omega);rw[show((N:Int)-1).toNat=N-1 from by omega] at this;omega
    have C:bstr (kindWords.getD (N-1) []++[91]++zab e++[93,32,61,32]++zab e'++[59,10])=((((KW++{ data:=#[91] })++S0)++{ data:=#[93,32,61,32] })++S1)++{ data:=#[59,10] }:=by rw[<-E,<-ao,<-ar];simp[zax,zbV]
    have bg:=zh ar
    have aj:∀W,OwnV W I.heap.size 9 (kindWordsP.map fun s=>Value.string (bstr s))->W.cell? ⟨I.heap.size,N,none⟩=some (.string KW):=fun W h=>by
     have:=h.cell (i:=N) (v:=.string KW) (by rw[List.getElem?_map,zjG bc bi,<-bg.out];rfl);exact this
    have ai:=zh aj;have aR:=zh (zlI I.drew);have bz:(N:Int)<11:=by omega
    have bN:(0:Int)<=(N:Int):=by omega
    have x1:=G.out.cell (i:=1) rfl;clear aj ar E ao;go_upto_region 11 with(fail)
    refine zc7 15 [0,3,0,0,4,4,4,0,4,4,4,0,4,4,4] (fun b w'=>Below I.heap.size I w'/\(b=false->w'=I.drew)/\(b=true->w'.cell? ⟨I.heap.size,N,none⟩=some (.string KW))) (by kernel_rfl) (by kernel_rfl) ⟨(yR _ _).drew,fun _=>rfl,fun h=>by cases h⟩ ?_;simp only[List.take_succ_cons,List.take_zero,List.drop_succ_cons,List.drop_zero];try simp only[Act.put,zs1,zs3,zs2]
    apply stepsSeq2.val
    ·rintro b w' j;have q:=zh j;have an:=Below.keep j.1 x1;clear j;try simp only[Act.put,zs1,zs3,zs2]
     go_wp2;exact⟨rfl,q.out⟩
    try simp only[Act.put,zs1,zs3,zs2]
    apply stepsSeq2.mem
    ·rintro w'⟨-,be,-⟩;obtain rfl:=be rfl;try simp only[Act.put,zs1,zs3,zs2]
     go_wp2_with fail
     go_at_call 50;refine aR.out.mono ?_;rintro e4 w4⟨rfl,ac,H⟩;have bo:=zh (ai.out _ ac);have Q:=zh H;clear ac H;go_wp2;exact⟨rfl,Below.trans (b:=I.drew) (yR _ _).drew Q.out,fun h=>(by cases h),fun _=>bo.out⟩
    try simp only[Act.put,zs1,zs3,zs2]
    apply stepsSeq2.val
    ·rintro b w' j;have q:=zh j;have an:=Below.keep j.1 x1;clear j;try simp only[Act.put,zs1,zs3,zs2]
     go_wp2;exact⟨rfl,q.out⟩
    try simp only[Act.put,zs1,zs3,zs2]
    apply stepsSeq2.val
    ·rintro b w' j;have q:=zh j;have an:=Below.keep j.1 x1;clear j;try simp only[Act.put,zs1,zs3,zs2]
     go_wp2;exact⟨rfl,q.out⟩
    try simp only[Act.put,zs1,zs3,zs2]
    apply stepsSeq2.back
    ·rintro w' j;have q:=zh j;have kc:w'.cell? ⟨I.heap.size,N,none⟩=some (.string KW):=j.2.2 rfl;clear j;try simp only[Act.put,zs1,zs3,zs2]
     go_wp2;first|exact⟨rfl,q.out⟩|exact⟨rfl,q.out.1,q.out.2.2 trivial⟩
    try simp only[Act.put,zs1,zs3,zs2]
    apply stepsSeq2.back
    ·rintro w' j;have q:=zh j;have kc:w'.cell? ⟨I.heap.size,N,none⟩=some (.string KW):=j.2.2 rfl;clear j;try simp only[Act.put,zs1,zs3,zs2]
     go_wp2;first|exact⟨rfl,q.out⟩|exact⟨rfl,q.out.1,q.out.2.2 trivial⟩
    try simp only[Act.put,zs1,zs3,zs2]
    apply stepsSeq2.back
    ·rintro w' j;have q:=zh j;have kc:w'.cell? ⟨I.heap.size,N,none⟩=some (.string KW):=j.2.2 rfl;clear j;try simp only[Act.put,zs1,zs3,zs2]
     go_wp2;first|exact⟨rfl,q.out⟩|exact⟨rfl,q.out.1,q.out.2.2 trivial⟩
    try simp only[Act.put,zs1,zs3,zs2]
    apply stepsSeq2.val
    ·rintro b w' j;have q:=zh j;have an:=Below.keep j.1 x1;clear j;try simp only[Act.put,zs1,zs3,zs2]
     go_wp2;exact⟨rfl,q.out⟩
    try simp only[Act.put,zs1,zs3,zs2]
    apply stepsSeq2.back
    ·rintro w' j;have q:=zh j;clear j;try simp only[Act.put,zs1,zs3,zs2]
     go_wp2_with fail
     refine(F.out _ q.out.1).mono ?_;rintro e4 w4⟨rfl,H⟩;have Q:=zh H;clear H;go_wp2;exact⟨rfl,q.out.1.trans (Q.out.mono q.out.1.size),fun h=>(by cases h),fun _=>Below.keep Q.out (q.out.2.2 (by first|rfl|trivial))⟩
    try simp only[Act.put,zs1,zs3,zs2]
    apply stepsSeq2.back
    ·rintro w' j;have q:=zh j;have kc:w'.cell? ⟨I.heap.size,N,none⟩=some (.string KW):=j.2.2 rfl;clear j;try simp only[Act.put,zs1,zs3,zs2]
     go_wp2;first|exact⟨rfl,q.out⟩|exact⟨rfl,q.out.1,q.out.2.2 trivial⟩
    try simp only[Act.put,zs1,zs3,zs2]
    apply stepsSeq2.back
    ·rintro w' j;have q:=zh j;have kc:w'.cell? ⟨I.heap.size,N,none⟩=some (.string KW):=j.2.2 rfl;clear j;try simp only[Act.put,zs1,zs3,zs2]
     go_wp2;first|exact⟨rfl,q.out⟩|exact⟨rfl,q.out.1,q.out.2.2 trivial⟩
    try simp only[Act.put,zs1,zs3,zs2]
    apply stepsSeq2.val
    ·rintro b w' j;have q:=zh j;have an:=Below.keep j.1 x1;clear j;try simp only[Act.put,zs1,zs3,zs2]
     go_wp2;exact⟨rfl,q.out⟩
    try simp only[Act.put,zs1,zs3,zs2]
    apply stepsSeq2.back
    ·rintro w' j;have q:=zh j;clear j;try simp only[Act.put,zs1,zs3,zs2]
     go_wp2_with fail
     refine(aC.out _ q.out.1).mono ?_;rintro e4 w4⟨rfl,H⟩;have Q:=zh H;clear H;go_wp2;exact⟨rfl,q.out.1.trans (Q.out.mono q.out.1.size),fun h=>(by cases h),fun _=>Below.keep Q.out (q.out.2.2 (by first|rfl|trivial))⟩
    try simp only[Act.put,zs1,zs3,zs2]
    apply stepsSeq2.back
    ·rintro w' j;have q:=zh j;have kc:w'.cell? ⟨I.heap.size,N,none⟩=some (.string KW):=j.2.2 rfl;clear j;try simp only[Act.put,zs1,zs3,zs2]
     go_wp2;first|exact⟨rfl,q.out⟩|exact⟨rfl,q.out.1,q.out.2.2 trivial⟩
    try simp only[Act.put,zs1,zs3,zs2]
    apply stepsSeq2.back
    ·rintro w' j;have q:=zh j;have kc:w'.cell? ⟨I.heap.size,N,none⟩=some (.string KW):=j.2.2 rfl;clear j;try simp only[Act.put,zs1,zs3,zs2]
     go_wp2;first|exact⟨rfl,q.out⟩|exact⟨rfl,q.out.1,q.out.2.2 trivial⟩
    try simp only[Act.put,zs1,zs3,zs2]
    refine stepsSeq2.nil ?_;rintro w4⟨z,-,-⟩;have ac:=z.size;have g:=zaT (kindWords.getD (N-1) []++[91]++zab e++[93,32,61,32]++zab e'++[59,10]) (X.out.below z) (by omega) (by have:=T.out;rw[f] at this;simp only[yA,yB,yL] at this ⊢;omega);rw[C] at g;have u:=zh g;have U:=zh (V.out.trans (Kp.of_below (b:=b) z (by omega)));clear g z C aR ai;try simp only[Act.put,zs1,zs3,zs2]
    go_wp2_with fail
    go_at_call 82;refine u.out.mono ?_;rintro e5 w5⟨rfl,A,m⟩;have L:=zh A;have M:=zh (U.out.trans m);clear A m u x1 x0;go_wp2_with fail
    go_roundw
    case measure=>show l.length-((k:Int)+1).toNat<l.length-(k:Int).toNat;omega
    case rel=>exact⟨k+1,by first|rfl|go_num,by omega,zh (Y.out _ (by have:=L.out;rw[f];simpa only[List.append_assoc,List.cons_append,List.nil_append] using this)),M⟩
   | @stopS _ op h =>
    rcases h with rfl|rfl
    ·have f:=zhZ tabs;have g:=zaT [115,116,111,112,59,10] X.out (by omega) (by have:=T.out;rw[f] at this;simp only[yA,yB,yL] at this ⊢;omega);have u:=zh (show Calls Tryz.prog 82 #[.pointer (some ⟨b,0,none⟩),.string { data:=#[115,116,111,112,59,10] }] I _ from g);clear g;go_wp2_with fail
     go_at_call 82;refine u.out.mono ?_;rintro e5 w5⟨rfl,A,m⟩;have L:=zh A;have M:=zh (V.out.trans m);clear A m u x0;go_wp2_with fail
     go_roundw
     case measure=>show l.length-((k:Int)+1).toNat<l.length-(k:Int).toNat;omega
     case rel=>exact⟨k+1,by first|rfl|go_num,by omega,zh (Y.out _ (by have:=L.out;rw[f];simpa only[List.append_assoc,List.cons_append,List.nil_append] using this)),M⟩
    ·have f:=zh0 tabs;have g:=zaT [102,97,105,108,59,10] X.out (by omega) (by have:=T.out;rw[f] at this;simp only[yA,yB,yL] at this ⊢;omega);have u:=zh (show Calls Tryz.prog 82 #[.pointer (some ⟨b,0,none⟩),.string { data:=#[102,97,105,108,59,10] }] I _ from g);clear g;go_wp2_with fail
     go_at_call 82;refine u.out.mono ?_;rintro e5 w5⟨rfl,A,m⟩;have L:=zh A;have M:=zh (V.out.trans m);clear A m u x0;go_wp2_with fail
     go_roundw
     case measure=>show l.length-((k:Int)+1).toNat<l.length-(k:Int).toNat;omega
     case rel=>exact⟨k+1,by first|rfl|go_num,by omega,zh (Y.out _ (by have:=L.out;rw[f];simpa only[List.append_assoc,List.cons_append,List.nil_append] using this)),M⟩
   | @whileS _ e body he hb =>
    have f:=zgX tabs e body;unfold zaZ at f;have F:Hid (∀W,Below I.heap.size I W->Calls Tryz.prog 83 #[.int .i64 0,.pointer (some ⟨gx,0,none⟩)] W (TxtE (zab e) W)):=zh (fun W hb=>zc4 (i:=0) (y:=e) HG.out ah (G.out.below hb (zr _)) (R.out.low (hb.mono (by omega))) (aa.out.trans (hb.mono (by omega))) (by have:=hb.size;omega) rfl he);obtain⟨S0,E⟩:∃S,bstr (zab e)=S:=⟨_,rfl⟩;have af:S0.size<=1000000000000000:=by rw[<-E,zaC,<-zaL];exact zaE he (by omega) _
    unfold TxtE at F;simp only[E] at F;have C:bstr ([119,104,105,108,101,32,40]++zab e++[41,32,123,10])=(({ data:=#[119,104,105,108,101,32,40] }:ByteArray)++S0)++{ data:=#[41,32,123,10] }:=by rw[<-E];simp[zax,zbV]
    go_wp2_with fail
    refine(F.out _ (yR _ _)).mono ?_;rintro e4 w4⟨rfl,H⟩;have ac:=H.size;have g:=zaT ([119,104,105,108,101,32,40]++zab e++[41,32,123,10]) (X.out.below H) (by omega) (by have:=T.out;rw[f] at this;simp only[yA,yB,yL] at this ⊢;omega);rw[C] at g;have u:=zh g;have U:=zh (V.out.trans (Kp.of_below (b:=b) H (by omega)));have aF:=zh (G.out.below H (zr _));have av:=zh (aw.out.low (H.mono (by omega)));have Q:=zh (aa.out.trans (H.mono (by omega)));clear g H C F x0;go_wp2_with fail
    go_at_call 82;refine u.out.mono ?_;rintro e5 w5⟨rfl,A,m⟩;have bK:=m.size;have a2:=zh (U.out.trans m);have aV:=zh (m.own aF.out (by omega) (by decide));have ag:=aA.out body hb _ w5 b _ (tabs++[9]) (Q.out.trans m.1) (by omega) (av.out.low m.1) A (by have:=aT.out;rw[yA];show tabs.length+1+D<=100;omega) (by have:=T.out;rw[f] at this;simp only[yA,yB,yL] at this ⊢;omega);rw[show bstr (tabs++[9])=bstr tabs++{ data:=#[9] } from(zax tabs [9]).symm] at ag;have aX:=zh ag;have x4:=aV.out.cell (i:=4) rfl;clear A m ag u U aF Q av;go_wp2_with fail
    go_at_call 54;refine aX.out.mono ?_;rintro e6 w6⟨rfl,a9,az⟩;have bG:=az.size;have bb:=zh (a2.out.trans az);have g:=zaT (tabs++[125,10]) a9 (by omega) (by have:=T.out;rw[f] at this;simp only[yA,yB,yL] at this ⊢;omega);rw[show bstr (tabs++[125,10])=bstr tabs++{ data:=#[125,10] } from(zax tabs [125,10]).symm] at g;have u:=zh g;clear a9 az g x4 aX a2 aV;go_wp2_with fail
    go_at_call 82;refine u.out.mono ?_;rintro e7 w7⟨rfl,a6,aK⟩;have L:=zh a6;have M:=zh (bb.out.trans aK);clear a6 aK u;go_wp2_with fail
    go_roundw
    case measure=>show l.length-((k:Int)+1).toNat<l.length-(k:Int).toNat;omega
    case rel=>exact⟨k+1,by first|rfl|go_num,by omega,zh (Y.out _ (by have:=L.out;rw[f];simpa only[List.append_assoc,List.cons_append,List.nil_append] using this)),M⟩
   | @ifS _ e body els he hb hl =>
    have a5:=a7 rfl 4 0 [] [e] body els _ _ _ I b _ tabs rfl aa.out (by omega) R.out aw.out a1.out X.out aT.out (by have:=T.out;simp only[yA] at this ⊢;omega);have au:=zh a5;have x1:=G.out.cell (i:=1) rfl;have x2:=G.out.cell (i:=2) rfl;have x3:=G.out.cell (i:=3) rfl;have x4:=G.out.cell (i:=4) rfl;have x5:=G.out.cell (i:=5) rfl;clear a5 a7;go_wp2_with fail
    go_at_call 84;refine au.out.mono ?_;rintro e5 w5⟨rfl,A,m⟩;have L:=zh A;have M:=zh (V.out.trans m);clear A m au x0 x1 x2 x3 x4 x5;go_wp2_with fail
    go_roundw
    case measure=>show l.length-((k:Int)+1).toNat<l.length-(k:Int).toNat;omega
    case rel=>exact⟨k+1,by first|rfl|go_num,by omega,zh (Y.out _ (by have:=L.out;simpa only[List.append_assoc,List.cons_append,List.nil_append] using this)),M⟩
theorem zku{w0:World}{B:Nat}(z:Glob w0)(j:glB<=B):∀(d:Nat),(∀l,(∀s∈l,ShpT d s)->LnC w0 B (d+1) l)/\(∀s,ShpT d s->opT s=4->BrC w0 B (d+1) s):=by
 intro d
 induction d with
 | zero =>
  have I:∀s,¬ShpT 0 s:=fun s h=>by cases h
  refine⟨fun l hl=>?_,fun s hs=>(I s hs).elim⟩
  have J:l=[]:=by
   cases l with
   | nil=>rfl
   | cons x r=>exact(I x (hl x (by simp))).elim
  subst J
  exact zgv (d:=0) (D:=0) z j [] (fun s hs=>by cases hs) (fun h=>(h rfl).elim) (fun h=>(h rfl).elim)
 | succ d ih =>
  obtain⟨i,G⟩:=ih
  have H:∀s,ShpT (d+1) s->opT s=4->BrC w0 B (d+1+1) s:=by
   intro s hs A op n name es body els L vb M w b K tabs e v E F u g q m f
   cases hs with
   | letS=>cases A
   | setS=>cases A
   | putS=>cases A
   | stopS h=>rcases h with rfl|rfl <;> cases A
   | whileS=>cases A
   | @ifS _ e0 body0 els0 he hbd2 hl2 =>
    cases e
    match els,hl2,g,f with
    | [],_,g,f=>exact zhz z j he v E F u g q m f (i body hbd2) rfl
    | [.mk o2 n2 nm2 es2 bo2 el2],hl2,g,f =>
     by_cases C:o2=4
     ·subst C;exact zjg z j he v E F u g q m f (i body hbd2) rfl (G _ (hl2 _ (by simp)) rfl)
     ·exact zgP z j he v E F u g q m f (i body hbd2) rfl C (i _ hl2)
    | x::y::r,hl2,g,f=>exact zgQ z j he v E F u g q m f (i body hbd2) (by simp) (i _ hl2)
  exact⟨fun l hl=>zgv (d:=d) (D:=d+1) z j l hl (fun _=>i) (fun _=>H),H⟩
theorem zde:∀{d:Nat} {x:Ex},Shp d x->(zab x).length<=32*szE x:=by
 intro d x h
 induction h with
 | @num d n h0 h1=>rw[zcq];have:=zjH h0 h1;simp only[szE,szEs];omega
 | @var d s h=>rw[zcr];have:=zcS (zbG h).1;simp only[szE,szEs];omega
 | @comp d n a h0 h1 _ ih=>rw[zdu];have:=zd7 h0 h1;simp only[szE,szEs,yA,yB,yL];omega
 | @leaf d op h =>
  rcases h with rfl|rfl
  ·rw[zep];simp only[szE,szEs,yB,yL];omega
  ·rw[zeq];simp only[szE,szEs,yB,yL];omega
 | @call d op a ho _ ih =>
  rcases ho with rfl|rfl
  ·rw[zdv];simp only[szE,szEs,yA,yB,yL];omega
  ·rw[zcN];simp only[szE,szEs,yA,yB,yL];omega
 | @pre d op a ho _ ih =>
  have:=zcL (zat a,zab a) 6;simp only at this;rcases ho with rfl|rfl
  ·rw[zcs];simp only[szE,szEs,yA,yB,yL];omega
  ·rw[zdm];simp only[szE,szEs,yA,yB,yL];omega
 | @bin d op a b h0 h1 _ _ iha ihb =>
  rw[zb0 h0 h1];have f:=zcL (zat a,zab a) (zby (zar op));have i:=zcL (zat b,zab b) (zar op+1);have g:=(zeF h0 h1).1
  simp only[szE,szEs,yA,yB,yL] at *
  omega
 | @two d op a b ho _ _ iha ihb =>
  rcases ho with rfl|rfl
  ·rw[zdT];simp only[szE,szEs,yA,yB,yL];omega
  ·rw[zdU];simp only[szE,szEs,yA,yB,yL];omega
theorem zbL(M a b:Nat):M*(a+b)=M*a+M*b:=Nat.mul_add M a b
theorem zdI{M:Nat}(h:64<=M)(x:Nat):32*x<=M*x:=Nat.mul_le_mul_right x (by omega)
theorem zeG{M:Nat}{tabs:List UInt8}:∀(l:List St),(∀s∈l,(oneW tabs s).length+tabs.length+1<=M*szS s)->(zaM tabs l).length<=M*szSs l:=by
 intro l
 induction l with
 | nil=>intro _;rw[zaM];exact Nat.zero_le _
 | cons x r ih =>
  intro h;have f:=h x (by simp);have d:=ih fun s hs=>h s (List.mem_cons_of_mem _ hs)
  rw[zaM];simp only[szSs,yA,yB,yL];rw[zbL];omega
theorem one_sz:∀{d:Nat} {s:St},ShpT d s->∀(M:Nat) (tabs:List UInt8),4*(tabs.length+d)+64<=M->(oneW tabs s).length+tabs.length+1<=M*szS s:=by
 intro d s h
 induction h with
 | @letS d name e h he =>
  intro M tabs hM;rw[zju];have f:=zde he;have u:=zcS (zbG h).1;have j:=zdI (M:=M) (by omega) (szE e);simp only[szS,szEs,szSs,yA,yB,yL,zbL,Nat.mul_one,Nat.mul_zero]
  omega
 | @setS d name e h he =>
  intro M tabs hM;rw[zjv];have f:=zde he;have u:=zcS (zbG h).1;have j:=zdI (M:=M) (by omega) (szE e);simp only[szS,szEs,szSs,yA,yB,yL,zbL,Nat.mul_one,Nat.mul_zero]
  omega
 | @putS d n e e' h0 f he he' =>
  intro M tabs hM;rw[zjw];have g1:=zde he;have g2:=zde he';have g3:=zd7 h0 f;have g4:=zdI (M:=M) (by omega) (szE e);have g5:=zdI (M:=M) (by omega) (szE e');simp only[szS,szEs,szSs,yA,yB,yL,zbL,Nat.mul_one,Nat.mul_zero]
  omega
 | @stopS d op h =>
  intro M tabs hM;rcases h with rfl|rfl
  ·rw[zhZ];simp only[szS,szEs,szSs,yB,yL,zbL,Nat.mul_one,Nat.mul_zero];omega
  ·rw[zh0];simp only[szS,szEs,szSs,yB,yL,zbL,Nat.mul_one,Nat.mul_zero];omega
 | @whileS d e body he hb ih =>
  intro M tabs hM;rw[zgX];unfold zaZ;have f:=zde he;have j:=zdI (M:=M) (by omega) (szE e);have v:=zeG (M:=M) (tabs:=tabs++[9]) body fun s hs=>ih s hs M (tabs++[9]) (by rw[yA];simp only[yB,yL];omega)
  simp only[szS,szEs,szSs,yA,yB,yL,zbL,Nat.mul_one,Nat.mul_zero]
  omega
 | @ifS d e body els he hb hl ihb ihl =>
  intro M tabs hM;have f:=zde he;have j:=zdI (M:=M) (by omega) (szE e);have v:=zeG (M:=M) (tabs:=tabs++[9]) body fun s hs=>ihb s hs M (tabs++[9]) (by rw[yA];simp only[yB,yL];omega)
  have g:=zeG (M:=M) (tabs:=tabs++[9]) els fun s hs=>ihl s hs M (tabs++[9]) (by rw[yA];simp only[yB,yL];omega)
  match els,hl,ihl,g with
  | [],_,_,_ =>
   rw[zjx];unfold zaZ;simp only[szS,szEs,szSs,yA,yB,yL,zbL,Nat.mul_one,Nat.mul_zero]
   omega
  | x :: r,hl,ihl,g =>
   by_cases i:zdM (x::r)=true
   ·match x,r,i,hl,ihl with
    | .mk o2 n2 nm2 es2 bo2 el2,[],i,hl,ihl =>
     have l:opT (.mk o2 n2 nm2 es2 bo2 el2)=4:=(show o2=4 by simpa[zdM] using i);rw[zjy tabs e body _ l];unfold zaZ;have w:=ihl (.mk o2 n2 nm2 es2 bo2 el2) (by simp) M tabs (by omega)
     generalize hq:St.mk o2 n2 nm2 es2 bo2 el2=q at *
     simp only[szS,szEs,szSs,yA,yB,yL,zbL,Nat.mul_one,Nat.mul_zero];omega
   ·have m:zdM (x::r)=false:=by simpa using i
    rw[zgG tabs e body x r m];unfold zaZ;simp only[szSs] at g;rw[zbL] at g;simp only[szS,szEs,szSs,yA,yB,yL,zbL,Nat.mul_one,Nat.mul_zero];omega
theorem zmE{l:List St}(h:∀s∈l,ShpT 40 s):(zaM [] l).length<=224*szSs l:=zeG l fun s hs=>one_sz (h s hs) 224 [] (by simp)
def zhE (l : List St) : List UInt8 × Int := if zaJ 40 l = true then zdN (zaM [] l) else ([], 2)
theorem zmF{w:World}{B:Nat}{l:List St}{v:Value}(hG:Glob w)(z:okSs l)(U:SsL w B l v)(hB:B<=w.heap.size)(Z:szSs l<=100000000000) :
  Calls Tryz.prog 29 #[v] w (zks (zhE l) w):=by
 have O:=U.mono hB;have J:=zh (zem l v w B z U hB)
 have A:Hid (zaJ 40 l=true->∀W b,Below w.heap.size w W->b=W.heap.size-1->w.heap.size<=b->Bd W b b []->Calls Tryz.prog 54 #[.pointer (some ⟨b,0,none⟩),v,.string { data:=#[] }] W (LnE (zaM [] l) b b [] W)):=zh (fun hr W b hb _ hbg hbd=>by
  have K:=zk1 40 l hr z;have aa:=hG.size;have ae:=hbd.lt;have ag:=zmE K;have hc:=(zku (w0:=W) (B:=b) (hG.below hb aa) (by omega) 40).1 l K v W b [] [] (yR _ _) (by omega) ((O.low hb).mono hbg) hbd (by simp) (by simp only[yL];omega)
  exact hc)
 have G:zhE l=if zaJ 40 l=true then zdN (zaM [] l) else([],2):=rfl
 obtain⟨va,vc,rfl,ad,ac⟩:=U.form;clear hG z U O Z
 generalize zaM [] l=T at *
 generalize zhE l=R at *
 generalize zaJ 40 l=q at *
 cases q with
 | false =>
  rw[yN (by decide)] at G;have V:=zh G;clear G A;go_enter Tryz.func29,Tryz.ntmps29
  go_wp2_with fail
  go_at_call 30;refine J.out.mono ?_;rintro e1 i⟨rfl,f⟩;have Y:=zh f;clear f;go_wp2_with fail
  exact yE (v:=.tuple #[.string { data:=#[] },.int .i64 2]) (by simp[results,Tryz.results29,go_sem]) rfl ⟨by rw[V.out];rfl,Y.out⟩
 | true =>
  rw[yP rfl] at G;have V:=zh G;have y:=zh (A.out rfl);clear G A;go_enter Tryz.func29,Tryz.ntmps29
  go_wp2_with fail
  go_at_call 30;refine J.out.mono ?_;rintro e1 i⟨rfl,f⟩;have m:=f.size;obtain⟨F,Q,C,u,M⟩:∃F,F=i.alloc (.cells #[.pointer none,.slice none 0 0] 65)/\Below i.heap.size i F/\Bd F i.heap.size i.heap.size []/\i.heap.size=F.heap.size-1:=⟨_,rfl,(yR _ _).alloc (zr _) _,Lib.IsBuilderF.of (Lib.fresh_isBuilder _ _ i),by simp⟩;have L:=zh (f.trans (C.mono m));have HC:=zh (y.out F i.heap.size L.out M m u);have ab:=zh Q;have af:=C.size;clear f Q C u M y;go_upto_region 4 with(fail)
  rw[<-ab.out];go_wp2_with fail
  go_at_call 54;refine HC.out.mono ?_;rintro e3 w3⟨rfl,P,D⟩;have ah:=D.size;have H:=Any.Builder_String_any_k Tryz.lays169 Tryz.Builder_Extra_169 i.heap.size i.heap.size T w3 (by have:=P;rw[List.nil_append] at this;exact this) (by omega);have I:=zh (show Calls Tryz.prog 56 #[.pointer (some ⟨i.heap.size,0,none⟩)] w3 _ from H);have X:=zh (L.out.trans (D.1.mono m));clear P D H HC;go_wp2_with fail
  go_at_call 56;refine I.out.mono ?_;rintro e4 w4⟨rfl,-,S,-⟩;have N:=zh (X.out.trans (S.mono m));have j:=zh (zhe (bstr T) w4);rw[zaC] at j;clear S I;have d:(zdN T)=(if 16384<T.length then([],3) else(T,0)):=rfl;by_cases g:16384<T.length
  ·rw[yP g] at d;rw[yP g,yP g] at j;have E:=zh d;clear d;go_wp2_with fail
   go_at_call 55;refine j.out.mono ?_;rintro e5 w5⟨rfl,rfl⟩;go_wp2_with fail
   exact yE (v:=.tuple #[.string { data:=#[] },.int .i64 3]) (by simp[results,Tryz.results29,go_sem]) rfl ⟨by rw[V.out,E.out];rfl,N.out⟩
  ·rw[yN g] at d;rw[yN g,yN g] at j;have E:=zh d;clear d;go_wp2_with fail
   go_at_call 55;refine j.out.mono ?_;rintro e5 w5⟨rfl,rfl⟩;go_wp2_with fail
   exact yE (v:=.tuple #[.string (bstr T),.int .i64 0]) (by simp[results,Tryz.results29,go_sem]) rfl ⟨by rw[V.out,E.out],N.out⟩
end Go.Proofs.YtoaojdobjinhfaaGreatDoor

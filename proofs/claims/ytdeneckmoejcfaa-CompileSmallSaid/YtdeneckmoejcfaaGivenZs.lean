/- marcheslaw13.Given and Taken, walked: a program as the other one has it. -/
import Derived.Test.YtdeneckmoejcfaaPCompZs
set_option linter.unusedSimpArgs false
set_option linter.unusedVariables false
set_option maxRecDepth 100000
set_option maxHeartbeats 2000000
namespace Go.Proofs.Ytdeneckmoejcfaa
open Go.RowKit
theorem cells_take (c:znA) (k:Nat) (hk:k < c.length):znH (c.take (k+1))=znH (c.take k)++[.int .u8 c[k].op,.int .i64 c[k].a]:=by
 rw [List.take_succ_eq_append_getElem hk,zrL];rfl
theorem three (w:World) (X Y Z:List Value) (tX tY tZ:TypeId):∃ W0,W0=((w.alloc (.cells X.toArray tX)).alloc (.cells Y.toArray tY)).alloc (.cells Z.toArray tZ)/\Below w.heap.size w W0/\OwnV W0 w.heap.size tX X/\OwnV W0 (w.heap.size+1) tY Y/\OwnV W0 (w.heap.size+1+1) tZ Z/\W0.heap.size=w.heap.size+3:=by
 refine ⟨_,rfl,(((yR _ _).alloc (zr _) _).alloc (by simp) _).alloc (by simp;omega) _,((OwnV.new w tX X).alloc _).alloc _,?_,?_,by simp⟩
 ·have:=OwnV.new (w.alloc (.cells X.toArray tX)) tY Y;exact OwnV.alloc (by simpa using this) _
 ·have:=OwnV.new ((w.alloc (.cells X.toArray tX)).alloc (.cells Y.toArray tY)) tZ Z;simpa using this

theorem given_own (P:ProgS) (v:Value) (w:World) (hC:SlC w P.code v) (hl:P.code.length<=1000000) :
  Calls Try.prog 18 #[zow P v] w fun e w'=>(∃ v',e=.returned (zow P v')/\OwnC w' w.heap.size 47 v' P.code)/\Below w.heap.size w w':=by
 obtain ⟨a,cap,rfl,_,_⟩:=Sl.form hC;have HC:=zh hC;clear hC;unfold zow;go_enter Try.func18,Try.ntmps18
 go_upto_region 2 with (fail)
 obtain ⟨W0,hW0,hb0,hX0,hY0,hZ0,hsz⟩:=three w [.slice a P.code.length cap,.int .i64 P.locals,.int .u32 (w32 P.reads),.int .u32 (w32 P.writes)] [.slice none 0 0,.int .i64 0,.int .u32 0,.int .u32 0] [.slice none 0 0,.int .i64 P.locals,.int .u32 (w32 P.reads),.int .u32 (w32 P.writes)] 29 40 40;rw [<- hW0];have HC0:=zh (SlC.below HC.out hb0);have Hb0:=zh hb0;have HX0:=zh hX0;have HY0:=zh hY0;have HZ0:=zh hZ0;clear hW0 hb0 hX0 hY0 hZ0 HC0;go_wp2_with fail
 go_loopw [4,12,13,14,15,16,17,18,19,20,21,22,23,24,25,26,27,28,29,30,31,32,33,34,35,36] (fun t4 _ _ _ _ _ _ _ _ _ _ _ _ _ _ _ _ _ _ _ _ _ _ _ _ _ wr=>∃ (k:Nat) (vr:Value),k<=P.code.length/\t4=.int .i64 k/\Hid (wr.ownsRow W0.heap.size 47 2 vr k (znH (P.code.take k)))/\Hid (OwnV wr (w.heap.size+1+1) 40 [vr,.int .i64 P.locals,.int .u32 (w32 P.reads),.int .u32 (w32 P.writes)])/\Hid (Below (w.heap.size+1+1) W0 wr)) (fun t4 _ _ _ _ _ _ _ _ _ _ _ _ _ _ _ _ _ _ _ _ _ _ _ _ _ _=>P.code.length - (intOf t4).toNat)
 case atStart=>exact ⟨0,.slice none 0 0,by omega,by first | rfl | go_num,zh (World.ownsRow_nil _ _ _ _),HZ0,zh (yR _ _)⟩
 case round =>
  obtain ⟨k,vr,hk,rfl,Hown,HZ,HB⟩:=hrel;have hszr:=HB.out.size;obtain ⟨ra,rcap,rfl,_,_⟩:=Sl.form (Sl.of_own Hown.out);have HXr:Hid (OwnV wr w.heap.size 29 [.slice a P.code.length cap,.int .i64 P.locals,.int .u32 (w32 P.reads),.int .u32 (w32 P.writes)]):=zh (by unfold OwnV;rw [HB.out.block _ (by omega)];exact HX0.out);have HYr:Hid (OwnV wr (w.heap.size+1) 40 [.slice none 0 0,.int .i64 0,.int .u32 0,.int .u32 0]):=zh (by unfold OwnV;rw [HB.out.block _ (by omega)];exact HY0.out);have Hbw:Hid (Below w.heap.size w wr):=zh (Hb0.out.trans (HB.out.mono (by omega)));have x0:=HXr.out.cell (i:=0) rfl;have z0:=HZ.out.cell (i:=0) rfl;by_cases hkl:k < P.code.length
  ·have hki:(k:Int) < (P.code.length:Int):=by omega
   have hll:(P.code.length:Int)<=1000000:=by omega
   obtain ⟨b,off,rfl,hbw,c0w,c1w⟩:=HC.out.at hkl;have c0:=Below.keep Hbw.out c0w;have c1:=Below.keep Hbw.out c1w;have Htk:=zh (cells_take P.code k hkl)
   generalize P.code[k]=z at *
   obtain ⟨op,x⟩:=z;simp only at c0 c1 c0w c1w;have Hc0w:=zh c0w;have Hc1w:=zh c1w;clear c0w c1w;have hbS:Below wr.heap.size wr ((wr.alloc (.cells #[.int .u8 op,.int .i64 x] 47)).drew):=((yR wr.heap.size wr).alloc (zr _) _).drew;have HownS:=zh (zbu Hown.out hbS (zr _));have HslS:Hid (Sl ((wr.alloc (.cells #[.int .u8 op,.int .i64 x] 47)).drew) 2 1 [.int .u8 op,.int .i64 x] (.slice (some ⟨wr.heap.size,0,none⟩) 1 1)):=zh (zb7 ((OwnV.new wr 47 [.int .u8 op,.int .i64 x]).drew) (by simp) (by omega) (by omega));have HZS:=zh (HZ.out.below hbS (zr _));have HBS:Hid (Below (w.heap.size+1+1) W0 ((wr.alloc (.cells #[.int .u8 op,.int .i64 x] 47)).drew)):=zh (HB.out.trans (hbS.mono (by omega)));have HwS:Hid (Below w.heap.size w ((wr.alloc (.cells #[.int .u8 op,.int .i64 x] 47)).drew)):=zh (Hb0.out.trans (HBS.out.mono (by omega)));have hszS:W0.heap.size<=((wr.alloc (.cells #[.int .u8 op,.int .i64 x] 47)).drew).heap.size:=yT hszr hbS.size;have zS:=HZS.out.cell (i:=0) rfl;clear hbS;have hbT:Below wr.heap.size wr (wr.drew.alloc (.cells #[.int .u8 op,.int .i64 x] 47)):=((yR wr.heap.size wr).drew).alloc (zr _) _;have HownT:=zh (zbu Hown.out hbT (zr _));have HslT:Hid (Sl (wr.drew.alloc (.cells #[.int .u8 op,.int .i64 x] 47)) 2 1 [.int .u8 op,.int .i64 x] (.slice (some ⟨wr.heap.size,0,none⟩) 1 1)):=zh (zb7 (OwnV.new wr.drew 47 [.int .u8 op,.int .i64 x]) (by simp) (by omega) (by omega));have HZT:=zh (HZ.out.below hbT (zr _));have HBT:Hid (Below (w.heap.size+1+1) W0 (wr.drew.alloc (.cells #[.int .u8 op,.int .i64 x] 47))):=zh (HB.out.trans (hbT.mono (by omega)));have HwT:Hid (Below w.heap.size w (wr.drew.alloc (.cells #[.int .u8 op,.int .i64 x] 47))):=zh (Hb0.out.trans (HBT.out.mono (by omega)));have hszT:W0.heap.size<=(wr.drew.alloc (.cells #[.int .u8 op,.int .i64 x] 47)).heap.size:=yT hszr hbT.size;have zT:=HZT.out.cell (i:=0) rfl;clear hbT;have hlz:w.heap.size+1+1 < wr.heap.size:=HZ.out.lt;have hbne:¬ b=w.heap.size+1+1:=by omega
   have hbne2:¬ w.heap.size=w.heap.size+1+1:=by omega
   go_wp2_with fail
   go_region_law (first | (refine zaR rfl (.tmp 20) (.tmp 34) 38 rfl HownS.out info_rins Try.underlying38 rfl (by decide) (by simp [Act.eval,Act.put]) HslS.out (by simp [Act.eval,Act.put]) rfl (by unfold maxLen;omega) (by omega) hszS ?_;intro v' w3 hown3 hg3 hb3 hat3;obtain ⟨a3,cap3,rfl,_,_⟩:=Sl.form (Sl.of_own hown3);have HZ3:Hid (OwnV w3 (w.heap.size+1+1) 40 [.slice ra k rcap,.int .i64 P.locals,.int .u32 (w32 P.reads),.int .u32 (w32 P.writes)]):=zh (by unfold OwnV;rw [hb3.block _ (by omega)];exact HZS.out);have e0:=HZ3.out.cell (i:=0) rfl;have ef:=HZ3.out.free 0;have HX3:OwnV w3 w.heap.size 29 [.slice (some ⟨b,off,none⟩) P.code.length cap,.int .i64 P.locals,.int .u32 (w32 P.reads),.int .u32 (w32 P.writes)]:=(by unfold OwnV;rw [hb3.block _ (by omega),HBS.out.block _ (by omega)];exact HX0.out);have Hw3:Below w.heap.size w w3:=HwS.out.trans (hb3.mono (by omega));have e1:=HX3.cell (i:=0) rfl;have e2:=Below.keep Hw3 Hc0w.out;have e3:=Below.keep Hw3 Hc1w.out) | (refine zaR rfl (.tmp 20) (.tmp 34) 38 rfl HownT.out info_rins Try.underlying38 rfl (by decide) (by simp [Act.eval,Act.put]) HslT.out (by simp [Act.eval,Act.put]) rfl (by unfold maxLen;omega) (by omega) hszT ?_;intro v' w3 hown3 hg3 hb3 hat3;obtain ⟨a3,cap3,rfl,_,_⟩:=Sl.form (Sl.of_own hown3);have HZ3:Hid (OwnV w3 (w.heap.size+1+1) 40 [.slice ra k rcap,.int .i64 P.locals,.int .u32 (w32 P.reads),.int .u32 (w32 P.writes)]):=zh (by unfold OwnV;rw [hb3.block _ (by omega)];exact HZT.out);have e0:=HZ3.out.cell (i:=0) rfl;have ef:=HZ3.out.free 0;have HX3:OwnV w3 w.heap.size 29 [.slice (some ⟨b,off,none⟩) P.code.length cap,.int .i64 P.locals,.int .u32 (w32 P.reads),.int .u32 (w32 P.writes)]:=(by unfold OwnV;rw [hb3.block _ (by omega),HBT.out.block _ (by omega)];exact HX0.out);have Hw3:Below w.heap.size w w3:=HwT.out.trans (hb3.mono (by omega));have e1:=HX3.cell (i:=0) rfl;have e2:=Below.keep Hw3 Hc0w.out;have e3:=Below.keep Hw3 Hc1w.out))
   all_goals
    go_wp2_with fail
    go_roundw
    case rel =>
     have h1:(w3.setCell ⟨w.heap.size+1+1,0,none⟩ (.slice a3 (k+1) cap3)).ownsRow W0.heap.size 47 2 (.slice a3 (k+1) cap3) (k+1) (znH (P.code.take (k+1))):=by
      rw [Htk.out];exact zdB hown3 (fun g hg e=>by have:=(hown3.lt g hg).1;omega) 0 _
     have h2:Below (w.heap.size+1+1) W0 (w3.setCell ⟨w.heap.size+1+1,0,none⟩ (.slice a3 (k+1) cap3)):=by first | exact (HBS.out.trans (hb3.mono (by omega))).setCell (p:=⟨w.heap.size+1+1,0,none⟩) (zr _) _ | exact (HBT.out.trans (hb3.mono (by omega))).setCell (p:=⟨w.heap.size+1+1,0,none⟩) (zr _) _
     first
      | exact ⟨k+1,.slice a3 (k+1) cap3,by omega,by go_num,zh h1,zh (HZ3.out.set 0 _),zh h2⟩
      | exact ⟨k+1,by omega,by omega,.slice a3 (k+1) cap3,zh h1,zh (HZ3.out.set 0 _),zh h2⟩
    case measure=>simp [intOf];omega
  ·have hki:¬ (k:Int) < (P.code.length:Int):=by omega
   obtain rfl:k=P.code.length:=by omega
   have HS:Hid (SlC wr P.code (.slice ra P.code.length rcap)):=zh (by have:=Sl.of_own Hown.out;rw [List.take_length] at this;exact this);have hne:∀ g,(Value.slice ra P.code.length rcap).ownBlock=some g->g≠w.heap.size+1:=fun g hg e=>by have:=(Hown.out.lt g hg).1;omega
   have z1:=HZ.out.cell (i:=1) rfl;have z2:=HZ.out.cell (i:=2) rfl;have z3:=HZ.out.cell (i:=3) rfl;obtain ⟨y0,y1,y2,y3⟩:=yc4 HYr.out;have yf:=HYr.out.free;have hlw:w.heap.size+1 < wr.heap.size:=HYr.out.lt;go_wp2_with fail
   refine yE (v:=.agg #[.slice ra P.code.length rcap,.int .i64 P.locals,.int .u32 (w32 P.reads),.int .u32 (w32 P.writes)]) (by simp [results,Try.results18,go_sem,y0,y1,y2,y3]) rfl ⟨⟨_,rfl,?_⟩,?_⟩
   ·have h4:=zdB (zdB (zdB (zdB Hown.out hne 0 (.slice ra P.code.length rcap)) hne 1 (.int .i64 P.locals)) hne 2 (.int .u32 (w32 P.reads))) hne 3 (.int .u32 (w32 P.writes));rw [List.take_length] at h4;exact znE h4 (by omega)
   ·exact (((Hbw.out.setCell (p:=⟨w.heap.size+1,0,none⟩) (by simp) _).setCell (p:=⟨w.heap.size+1,1,none⟩) (by simp) _).setCell (p:=⟨w.heap.size+1,2,none⟩) (by simp) _).setCell (p:=⟨w.heap.size+1,3,none⟩) (by simp) _
theorem given_any (P:ProgS) (v:Value) (w:World) (hC:SlC w P.code v) (hl:P.code.length<=1000000) :
  Calls Try.prog 18 #[zow P v] w fun e w'=>(∃ v',e=.returned (zow P v')/\SlC w' P.code v')/\Below w.heap.size w w':=
 (given_own P v w hC hl).mono fun e w' h=>⟨h.1.elim fun v' h1=>⟨v',h1.1,OwnC.sl h1.2⟩,h.2⟩

theorem taken_own (P:ProgS) (v:Value) (w:World) (hC:SlC w P.code v) (hl:P.code.length<=1000000) :
  Calls Try.prog 21 #[zow P v] w fun e w'=>(∃ v',e=.returned (zow P v')/\OwnC w' w.heap.size 35 v' P.code)/\Below w.heap.size w w':=by
 obtain ⟨a,cap,rfl,_,_⟩:=Sl.form hC;have HC:=zh hC;clear hC;unfold zow;go_enter Try.func21,Try.ntmps21
 go_upto_region 2 with (fail)
 obtain ⟨W0,hW0,hb0,hX0,hY0,hZ0,hsz⟩:=three w [.slice a P.code.length cap,.int .i64 P.locals,.int .u32 (w32 P.reads),.int .u32 (w32 P.writes)] [.slice none 0 0,.int .i64 0,.int .u32 0,.int .u32 0] [.slice none 0 0,.int .i64 P.locals,.int .u32 (w32 P.reads),.int .u32 (w32 P.writes)] 40 29 29;rw [<- hW0];have HC0:=zh (SlC.below HC.out hb0);have Hb0:=zh hb0;have HX0:=zh hX0;have HY0:=zh hY0;have HZ0:=zh hZ0;clear hW0 hb0 hX0 hY0 hZ0 HC0;go_wp2_with fail
 go_loopw [4,12,13,14,15,16,17,18,19,20,21,22,23,24,25,26,27,28,29,30,31,32,33,34,35,36] (fun t4 _ _ _ _ _ _ _ _ _ _ _ _ _ _ _ _ _ _ _ _ _ _ _ _ _ wr=>∃ (k:Nat) (vr:Value),k<=P.code.length/\t4=.int .i64 k/\Hid (wr.ownsRow W0.heap.size 35 2 vr k (znH (P.code.take k)))/\Hid (OwnV wr (w.heap.size+1+1) 29 [vr,.int .i64 P.locals,.int .u32 (w32 P.reads),.int .u32 (w32 P.writes)])/\Hid (Below (w.heap.size+1+1) W0 wr)) (fun t4 _ _ _ _ _ _ _ _ _ _ _ _ _ _ _ _ _ _ _ _ _ _ _ _ _ _=>P.code.length - (intOf t4).toNat)
 case atStart=>exact ⟨0,.slice none 0 0,by omega,by first | rfl | go_num,zh (World.ownsRow_nil _ _ _ _),HZ0,zh (yR _ _)⟩
 case round =>
  obtain ⟨k,vr,hk,rfl,Hown,HZ,HB⟩:=hrel;have hszr:=HB.out.size;obtain ⟨ra,rcap,rfl,_,_⟩:=Sl.form (Sl.of_own Hown.out);have HXr:Hid (OwnV wr w.heap.size 40 [.slice a P.code.length cap,.int .i64 P.locals,.int .u32 (w32 P.reads),.int .u32 (w32 P.writes)]):=zh (by unfold OwnV;rw [HB.out.block _ (by omega)];exact HX0.out);have HYr:Hid (OwnV wr (w.heap.size+1) 29 [.slice none 0 0,.int .i64 0,.int .u32 0,.int .u32 0]):=zh (by unfold OwnV;rw [HB.out.block _ (by omega)];exact HY0.out);have Hbw:Hid (Below w.heap.size w wr):=zh (Hb0.out.trans (HB.out.mono (by omega)));have x0:=HXr.out.cell (i:=0) rfl;have z0:=HZ.out.cell (i:=0) rfl;by_cases hkl:k < P.code.length
  ·have hki:(k:Int) < (P.code.length:Int):=by omega
   have hll:(P.code.length:Int)<=1000000:=by omega
   obtain ⟨b,off,rfl,hbw,c0w,c1w⟩:=HC.out.at hkl;have c0:=Below.keep Hbw.out c0w;have c1:=Below.keep Hbw.out c1w;have Htk:=zh (cells_take P.code k hkl)
   generalize P.code[k]=z at *
   obtain ⟨op,x⟩:=z;simp only at c0 c1 c0w c1w;have Hc0w:=zh c0w;have Hc1w:=zh c1w;clear c0w c1w;have hbS:Below wr.heap.size wr ((wr.alloc (.cells #[.int .u8 op,.int .i64 x] 35)).drew):=((yR wr.heap.size wr).alloc (zr _) _).drew;have HownS:=zh (zbu Hown.out hbS (zr _));have HslS:Hid (Sl ((wr.alloc (.cells #[.int .u8 op,.int .i64 x] 35)).drew) 2 1 [.int .u8 op,.int .i64 x] (.slice (some ⟨wr.heap.size,0,none⟩) 1 1)):=zh (zb7 ((OwnV.new wr 35 [.int .u8 op,.int .i64 x]).drew) (by simp) (by omega) (by omega));have HZS:=zh (HZ.out.below hbS (zr _));have HBS:Hid (Below (w.heap.size+1+1) W0 ((wr.alloc (.cells #[.int .u8 op,.int .i64 x] 35)).drew)):=zh (HB.out.trans (hbS.mono (by omega)));have HwS:Hid (Below w.heap.size w ((wr.alloc (.cells #[.int .u8 op,.int .i64 x] 35)).drew)):=zh (Hb0.out.trans (HBS.out.mono (by omega)));have hszS:W0.heap.size<=((wr.alloc (.cells #[.int .u8 op,.int .i64 x] 35)).drew).heap.size:=yT hszr hbS.size;have zS:=HZS.out.cell (i:=0) rfl;clear hbS;have hbT:Below wr.heap.size wr (wr.drew.alloc (.cells #[.int .u8 op,.int .i64 x] 35)):=((yR wr.heap.size wr).drew).alloc (zr _) _;have HownT:=zh (zbu Hown.out hbT (zr _));have HslT:Hid (Sl (wr.drew.alloc (.cells #[.int .u8 op,.int .i64 x] 35)) 2 1 [.int .u8 op,.int .i64 x] (.slice (some ⟨wr.heap.size,0,none⟩) 1 1)):=zh (zb7 (OwnV.new wr.drew 35 [.int .u8 op,.int .i64 x]) (by simp) (by omega) (by omega));have HZT:=zh (HZ.out.below hbT (zr _));have HBT:Hid (Below (w.heap.size+1+1) W0 (wr.drew.alloc (.cells #[.int .u8 op,.int .i64 x] 35))):=zh (HB.out.trans (hbT.mono (by omega)));have HwT:Hid (Below w.heap.size w (wr.drew.alloc (.cells #[.int .u8 op,.int .i64 x] 35))):=zh (Hb0.out.trans (HBT.out.mono (by omega)));have hszT:W0.heap.size<=(wr.drew.alloc (.cells #[.int .u8 op,.int .i64 x] 35)).heap.size:=yT hszr hbT.size;have zT:=HZT.out.cell (i:=0) rfl;clear hbT;have hlz:w.heap.size+1+1 < wr.heap.size:=HZ.out.lt;have hbne:¬ b=w.heap.size+1+1:=by omega
   have hbne2:¬ w.heap.size=w.heap.size+1+1:=by omega
   go_wp2_with fail
   go_region_law (first | (refine zaR rfl (.tmp 20) (.tmp 34) 26 rfl HownS.out zsk Try.underlying26 rfl (by decide) (by simp [Act.eval,Act.put]) HslS.out (by simp [Act.eval,Act.put]) rfl (by unfold maxLen;omega) (by omega) hszS ?_;intro v' w3 hown3 hg3 hb3 hat3;obtain ⟨a3,cap3,rfl,_,_⟩:=Sl.form (Sl.of_own hown3);have HZ3:Hid (OwnV w3 (w.heap.size+1+1) 29 [.slice ra k rcap,.int .i64 P.locals,.int .u32 (w32 P.reads),.int .u32 (w32 P.writes)]):=zh (by unfold OwnV;rw [hb3.block _ (by omega)];exact HZS.out);have e0:=HZ3.out.cell (i:=0) rfl;have ef:=HZ3.out.free 0;have HX3:OwnV w3 w.heap.size 40 [.slice (some ⟨b,off,none⟩) P.code.length cap,.int .i64 P.locals,.int .u32 (w32 P.reads),.int .u32 (w32 P.writes)]:=(by unfold OwnV;rw [hb3.block _ (by omega),HBS.out.block _ (by omega)];exact HX0.out);have Hw3:Below w.heap.size w w3:=HwS.out.trans (hb3.mono (by omega));have e1:=HX3.cell (i:=0) rfl;have e2:=Below.keep Hw3 Hc0w.out;have e3:=Below.keep Hw3 Hc1w.out) | (refine zaR rfl (.tmp 20) (.tmp 34) 26 rfl HownT.out zsk Try.underlying26 rfl (by decide) (by simp [Act.eval,Act.put]) HslT.out (by simp [Act.eval,Act.put]) rfl (by unfold maxLen;omega) (by omega) hszT ?_;intro v' w3 hown3 hg3 hb3 hat3;obtain ⟨a3,cap3,rfl,_,_⟩:=Sl.form (Sl.of_own hown3);have HZ3:Hid (OwnV w3 (w.heap.size+1+1) 29 [.slice ra k rcap,.int .i64 P.locals,.int .u32 (w32 P.reads),.int .u32 (w32 P.writes)]):=zh (by unfold OwnV;rw [hb3.block _ (by omega)];exact HZT.out);have e0:=HZ3.out.cell (i:=0) rfl;have ef:=HZ3.out.free 0;have HX3:OwnV w3 w.heap.size 40 [.slice (some ⟨b,off,none⟩) P.code.length cap,.int .i64 P.locals,.int .u32 (w32 P.reads),.int .u32 (w32 P.writes)]:=(by unfold OwnV;rw [hb3.block _ (by omega),HBT.out.block _ (by omega)];exact HX0.out);have Hw3:Below w.heap.size w w3:=HwT.out.trans (hb3.mono (by omega));have e1:=HX3.cell (i:=0) rfl;have e2:=Below.keep Hw3 Hc0w.out;have e3:=Below.keep Hw3 Hc1w.out))
   all_goals
    go_wp2_with fail
    go_roundw
    case rel =>
     have h1:(w3.setCell ⟨w.heap.size+1+1,0,none⟩ (.slice a3 (k+1) cap3)).ownsRow W0.heap.size 35 2 (.slice a3 (k+1) cap3) (k+1) (znH (P.code.take (k+1))):=by
      rw [Htk.out];exact zdB hown3 (fun g hg e=>by have:=(hown3.lt g hg).1;omega) 0 _
     have h2:Below (w.heap.size+1+1) W0 (w3.setCell ⟨w.heap.size+1+1,0,none⟩ (.slice a3 (k+1) cap3)):=by first | exact (HBS.out.trans (hb3.mono (by omega))).setCell (p:=⟨w.heap.size+1+1,0,none⟩) (zr _) _ | exact (HBT.out.trans (hb3.mono (by omega))).setCell (p:=⟨w.heap.size+1+1,0,none⟩) (zr _) _
     first
      | exact ⟨k+1,.slice a3 (k+1) cap3,by omega,by go_num,zh h1,zh (HZ3.out.set 0 _),zh h2⟩
      | exact ⟨k+1,by omega,by omega,.slice a3 (k+1) cap3,zh h1,zh (HZ3.out.set 0 _),zh h2⟩
    case measure=>simp [intOf];omega
  ·have hki:¬ (k:Int) < (P.code.length:Int):=by omega
   obtain rfl:k=P.code.length:=by omega
   have HS:Hid (SlC wr P.code (.slice ra P.code.length rcap)):=zh (by have:=Sl.of_own Hown.out;rw [List.take_length] at this;exact this);have hne:∀ g,(Value.slice ra P.code.length rcap).ownBlock=some g->g≠w.heap.size+1:=fun g hg e=>by have:=(Hown.out.lt g hg).1;omega
   have z1:=HZ.out.cell (i:=1) rfl;have z2:=HZ.out.cell (i:=2) rfl;have z3:=HZ.out.cell (i:=3) rfl;obtain ⟨y0,y1,y2,y3⟩:=yc4 HYr.out;have yf:=HYr.out.free;have hlw:w.heap.size+1 < wr.heap.size:=HYr.out.lt;go_wp2_with fail
   refine yE (v:=.agg #[.slice ra P.code.length rcap,.int .i64 P.locals,.int .u32 (w32 P.reads),.int .u32 (w32 P.writes)]) (by simp [results,Try.results21,go_sem,y0,y1,y2,y3]) rfl ⟨⟨_,rfl,?_⟩,?_⟩
   ·have h4:=zdB (zdB (zdB (zdB Hown.out hne 0 (.slice ra P.code.length rcap)) hne 1 (.int .i64 P.locals)) hne 2 (.int .u32 (w32 P.reads))) hne 3 (.int .u32 (w32 P.writes));rw [List.take_length] at h4;exact znE h4 (by omega)
   ·exact (((Hbw.out.setCell (p:=⟨w.heap.size+1,0,none⟩) (by simp) _).setCell (p:=⟨w.heap.size+1,1,none⟩) (by simp) _).setCell (p:=⟨w.heap.size+1,2,none⟩) (by simp) _).setCell (p:=⟨w.heap.size+1,3,none⟩) (by simp) _
theorem taken_any (P:ProgS) (v:Value) (w:World) (hC:SlC w P.code v) (hl:P.code.length<=1000000) :
  Calls Try.prog 21 #[zow P v] w fun e w'=>(∃ v',e=.returned (zow P v')/\SlC w' P.code v')/\Below w.heap.size w w':=
 (taken_own P v w hC hl).mono fun e w' h=>⟨h.1.elim fun v' h1=>⟨v',h1.1,OwnC.sl h1.2⟩,h.2⟩
end Go.Proofs.Ytdeneckmoejcfaa

/- marcheskit's copies of trees, walked. -/
import Derived.Test.YtdeneckmoejcfaaOnlyZs
import Derived.Test.YtdeneckmoejcfaaRParPZs
set_option linter.unusedSimpArgs false
set_option linter.unusedVariables false
set_option maxRecDepth 100000
set_option maxHeartbeats 1000000
namespace Go.Proofs.Ytdeneckmoejcfaa
open Go.RowKit

def CopyEs (xs : List Ex) (w : World) (e : Ending) (w' : World) : Prop := (∃ r cs, e = .returned r /\ w'.ownsRow w.heap.size 65 4 r xs.length cs /\ ExsC w' (fun g => w.heap.size <= g /\ r.ownBlock ≠ some g) xs cs) /\ Below w.heap.size w w'
def CopyE1 (x : Ex) (w : World) (e : Ending) (w' : World) : Prop := (∃ cs : List Value, e = .returned (.agg cs.toArray) /\ ExsC w' (fun g => w.heap.size <= g) [x] cs) /\ Below w.heap.size w w'
theorem EsV.set {w:World} {m:Nat} {xs:List Ex} {v:Value} (h:EsV w m xs v) {b o:Nat} {x:Value} (hlt:b < m):EsV (w.setCell ⟨b,o,none⟩ x) m xs v:=h.grown (zaY _ _ _ _) hlt
theorem SsV.set {w:World} {m:Nat} {xs:List St} {v:Value} (h:SsV w m xs v) {b o:Nat} {x:Value} (hlt:b < m):SsV (w.setCell ⟨b,o,none⟩ x) m xs v:=h.grown (zaY _ _ _ _) hlt
theorem EsV.one {w:World} {m B:Nat} {op n:Int} {name:List UInt8} {args:List Ex} {v:Value} (h:EsV w m args v) (hB:B<=m):ExsC w (fun g=>B<=g) [.mk op n name args] [.int .u8 op,.int .i64 n,.string (bstr name),v]:=by
 obtain ⟨cs,h1,h2,h3⟩:=h;exact (ExsC.cons (P:=fun g=>m<=g) h1 h2 h3 .nil).weak fun g _ h=>yT hB h
theorem copyE_any (op n:Int) (name:List UInt8) (args:List Ex) (v:Value) (w:World) (hv:∃ a cap,v=.slice a args.length cap) (hC:∀ w',Below w.heap.size w w'->Calls Try.prog 65 #[v] w' (CopyEs args w')) :
  Calls Try.prog 90 #[.agg #[.int .u8 op,.int .i64 n,.string (bstr name),v]] w (CopyE1 (.mk op n name args) w):=by
 obtain ⟨a,cap,rfl⟩:=hv;have HC:=zh hC;clear hC;go_enter Try.func90,Try.ntmps90
 go_upto_region 1 with (fail)
 obtain ⟨W0,hW0,hb0,hR0,hT0,hsz⟩:=zbD w [.int .u8 op,.int .i64 n,.string (bstr name),.slice a args.length cap] zeroE 65 65;simp only [zeroE] at hW0;rw [<- hW0];clear hW0;have Hb0:=zh hb0;have HR0:=zh hR0;have HT0:=zh hT0;have x3:=hR0.cell (i:=3) rfl;clear hb0 hR0 hT0;go_wp2_with fail
 refine (HC.out _ Hb0.out).mono ?_;rintro e1 w1 ⟨⟨r,cs,rfl,hown,hX⟩,hb1⟩;obtain ⟨ra,rcap,rfl,_,_⟩:=Sl.form (Sl.of_own hown);have HR1:=zh (HR0.out.below hb1 (zr _));have HT1:=zh (HT0.out.below hb1 (zr _));have Hb1:=zh (Hb0.out.trans (hb1.mono Hb0.out.size));have HE1:Hid (EsV w1 (w.heap.size+2) args (.slice ra args.length rcap)):=zh (EsV.of_own hown hX.weak1 hsz);clear hown hX hb1 x3 HR0 HT0;have hRx:=HR1.out;obtain ⟨x0,x1,x2,x3⟩:=yc4 hRx;have xf:=hRx.free;have hTx:=HT1.out;obtain ⟨y0,y1,y2,y3⟩:=yc4 hTx;have yf:=hTx.free;clear hRx hTx;go_wp2_with fail
 refine yE (v:=.agg #[.int .u8 op,.int .i64 n,.string (bstr name),.slice ra args.length rcap]) (by simp [results,Try.results90,go_sem,y0,y1,y2,y3]) rfl ⟨⟨_,rfl,?_⟩,?_⟩
 ·exact (((((HE1.out.set (by omega)).set (by omega)).set (by omega)).set (by omega)).set (by omega)).one (by omega)
 ·exact ((((Hb1.out.setCell (zr _) _).setCell (by simp) _).setCell (by simp) _).setCell (by simp) _).setCell (by simp) _
theorem copyEs_any:∀ (m:Nat) (xs:List Ex) (v:Value) (w:World) (B:Nat),szEs xs < m->szEs xs<=1000000->EsL w B xs v->B<=w.heap.size ->
  Calls Try.prog 65 #[v] w (CopyEs xs w):=by
 intro m
 induction m with
 | zero=>intro xs v w B h;omega
 | succ m ih =>
  intro xs v w B hm hsm hL hB;obtain ⟨a,cap,rfl,hc1,hc2⟩:=hL.form;have HL:=zh hL;have Hm:=zh hm;have Hih:=zh ih;have hlen:xs.length<=1000000:=yT (zoh xs) hsm;clear hm hL ih;go_enter Try.func65,Try.ntmps65
  go_wp2_with fail
  go_loopw [3,4,5,6,7,8,9,10,11,12,13,14,15,16,17,18,19,20] (fun t3 t4 _ _ _ _ _ _ _ _ _ _ _ _ _ _ _ _ wr=>∃ (k:Nat) (cs:List Value),k<=xs.length/\t4=.int .i64 k/\wr.ownsRow w.heap.size 65 4 t3 k cs/\Hid (ExsC wr (fun g=>w.heap.size<=g/\t3.ownBlock≠some g) (xs.take k) cs)/\Hid (Below w.heap.size w wr)) (fun _ t4 _ _ _ _ _ _ _ _ _ _ _ _ _ _ _ _ _=>xs.length - (intOf t4).toNat)
  case atStart=>exact ⟨0,[],by omega,by first | rfl | go_num,World.ownsRow_nil _ _ _ _,zh .nil,zh (yR _ _)⟩
  case round =>
   obtain ⟨k,cs,hk,rfl,hown,HX,HB⟩:=hrel;have hszr:=HB.out.size;by_cases hkl:k < xs.length
   ·have hki:(k:Int) < (xs.length:Int):=by omega
    have hcl:(xs.length:Int)<=1000000:=by omega
    have hLr:EsL wr B xs (.slice a xs.length cap):=HL.out.low (HB.out.mono hB);obtain ⟨b,off,op2,n2,name2,args2,aa,ac,rfl,hbB,hbw,hat,c0,c1,c2,c3,hL2⟩:=hLr.at hkl;have hz:=zlL hat;have HI:=zh (copyE_any op2 n2 name2 args2 _ wr ⟨aa,ac,rfl⟩ (fun w' hb=>Hih.out args2 _ w' B (by have:=Hm.out;omega) (by omega) (hL2.low (hb.mono (yT hB hszr))) (yT hB (yT hszr hb.size))))
    have Htk:Hid (xs.take (k+1)=xs.take k++[.mk op2 n2 name2 args2]):=zh (by
     obtain ⟨h1,h2⟩:=List.getElem?_eq_some_iff.1 hat
     rw [List.take_succ_eq_append_getElem hkl,h2])
    clear hLr hat hL2 hz;go_wp2_with fail
    refine HI.out.mono ?_;rintro e2 w2 ⟨⟨cx,rfl,hX2⟩,hb2⟩;obtain ⟨op,n,name,args,ad,cp,hx,rfl⟩:=hX2.one;rw [hx] at Htk hX2;have HX2:=zh hX2;have Hb2:=zh hb2;have hs2:w.heap.size<=w2.heap.size:=yT hszr hb2.size;have hown2:=(zbu hown hb2 (zr _)).alloc (.cells #[.int .u8 op,.int .i64 n,.string (bstr name),.slice ad args.length cp] 65);have Hbw:=zh ((HB.out.trans (hb2.mono hszr)).alloc hs2 (.cells #[.int .u8 op,.int .i64 n,.string (bstr name),.slice ad args.length cp] 65));clear hX2 hb2 hx;go_wp2_with (at_builtin;refine zbj rfl (.tmp 17) (.tmp 19) 57 rfl hown2 zbx Try.underlying57 rfl (by decide) rfl 1 1 (by show Value.slice (some ⟨w2.heap.size+1,0,none⟩) 1 1=_;simp) rfl rfl (by unfold maxLen;omega) (by omega) Hbw.out.size ?_;intro v' w3 hown3 hg3 hb4 hat4)
    go_roundw
    case rel=>exact ⟨k+1,cs++[.int .u8 op,.int .i64 n,.string (bstr name),.slice ad args.length cp],by omega,by go_num,hown3,zh (by rw [Htk.out];exact zfV hown HX.out Hb2.out HX2.out hszr ((yR _ _).alloc (zr _) _) hg3 hat4),zh (Hbw.out.trans hb4)⟩
    case measure=>simp [intOf];omega
   ·have hki:¬ (k:Int) < (xs.length:Int):=by omega
    have hke:k=xs.length:=by omega
    have Hown:Hid (wr.ownsRow w.heap.size 65 4 u3 xs.length cs):=zh (by rw [<- hke];exact hown);have HX2:Hid (ExsC wr (fun g=>w.heap.size<=g/\u3.ownBlock≠some g) xs cs):=zh (by have:=HX.out;rw [hke,List.take_length] at this;exact this);clear hown HX;go_wp2_with fail
    go_ret;exact ⟨⟨_,cs,rfl,Hown.out,HX2.out⟩,HB.out⟩
def CopySs (xs : List St) (w : World) (e : Ending) (w' : World) : Prop := (∃ r cs, e = .returned r /\ w'.ownsRow w.heap.size 59 6 r xs.length cs /\ StsC w' (fun g => w.heap.size <= g /\ r.ownBlock ≠ some g) xs cs) /\ Below w.heap.size w w'
def CopyS1 (x : St) (w : World) (e : Ending) (w' : World) : Prop := (∃ cs : List Value, e = .returned (.agg cs.toArray) /\ StsC w' (fun g => w.heap.size <= g) [x] cs) /\ Below w.heap.size w w'
theorem StsC.weak1 {w:World} {P Q:Nat->Prop} {xs:List St} {cs:List Value} (h:StsC w (fun g=>P g/\Q g) xs cs):StsC w P xs cs:=h.weak fun _ _ h=>h.1
theorem stc_mk {w:World} {m B:Nat} {op n:Int} {name:List UInt8} {es:List Ex} {body els:List St} {ve vb vl:Value} (h1:EsV w m es ve) (h2:SsV w m body vb) (h3:SsV w m els vl) (hB:B<=m):StsC w (fun g=>B<=g) [.mk op n name es body els] [.int .u8 op,.int .i64 n,.string (bstr name),ve,vb,vl]:=by
 obtain ⟨cs,h,hc⟩:=zc6 (op:=op) (n:=n) (name:=name) h1 h2 h3 hB
 have e:cs=[.int .u8 op,.int .i64 n,.string (bstr name),ve,vb,vl]:=by
  have:=congrArg (fun v=>match v with | .agg a=>a.toList | _=>[]) h;simpa using this.symm
 rw [e] at hc;exact hc
theorem copyS_any (op n:Int) (name:List UInt8) (es:List Ex) (body els:List St) (ve vb vl:Value) (w:World) (hve:∃ a cap,ve=.slice a es.length cap) (hvb:∃ a cap,vb=.slice a body.length cap) (hvl:∃ a cap,vl=.slice a els.length cap)
  (hC:∀ w',Below w.heap.size w w'->Calls Try.prog 65 #[ve] w' (CopyEs es w')) (hD:∀ w',Below w.heap.size w w'->Calls Try.prog 32 #[vb] w' (CopySs body w')) (hE:∀ w',Below w.heap.size w w'->Calls Try.prog 32 #[vl] w' (CopySs els w')) :
  Calls Try.prog 50 #[.agg #[.int .u8 op,.int .i64 n,.string (bstr name),ve,vb,vl]] w (CopyS1 (.mk op n name es body els) w):=by
 obtain ⟨ae,pe,rfl⟩:=hve;obtain ⟨ab,pb,rfl⟩:=hvb;obtain ⟨al,pl,rfl⟩:=hvl;have HC:=zh hC;have HD:=zh hD;have HE:=zh hE;clear hC hD hE;go_enter Try.func50,Try.ntmps50
 go_upto_region 1 with (fail)
 obtain ⟨W0,hW0,hb0,hR0,hT0,hsz⟩:=zbD w [.int .u8 op,.int .i64 n,.string (bstr name),.slice ae es.length pe,.slice ab body.length pb,.slice al els.length pl] zbh 59 59;simp only [zbh] at hW0;rw [<- hW0];clear hW0;have Hb0:=zh hb0;have HR0:=zh hR0;have HT0:=zh hT0;have x3:=hR0.cell (i:=3) rfl;clear hb0 hR0 hT0;go_wp2_with fail
 refine (HC.out _ Hb0.out).mono ?_;rintro e1 w1 ⟨⟨r1,cs1,rfl,hown1,hX1⟩,hb1⟩;obtain ⟨a1,c1,rfl,_,_⟩:=Sl.form (Sl.of_own hown1);have HR1:=zh (HR0.out.below hb1 (zr _));have HT1:=zh (HT0.out.below hb1 (zr _));have Hb1:=zh (Hb0.out.trans (hb1.mono Hb0.out.size));have HE1:Hid (EsV w1 (w.heap.size+2) es (.slice a1 es.length c1)):=zh (EsV.of_own hown1 hX1.weak1 hsz);have hsz1:=yT hsz hb1.size;clear hown1 hX1 hb1 x3 HR0 HT0 Hb0;have x3:=HR1.out.cell (i:=3) rfl;have x4:=HR1.out.cell (i:=4) rfl;have xf:=HR1.out.free;go_upto_region 2 with (fail)
 obtain ⟨W1,hW1,hR1,hg1⟩:=set1 HR1.out 3 (.slice a1 es.length c1);rw [<- hW1];have HRa:=zh hR1;have HTa:=zh (HT1.out.grown hg1 (by simp));have Hba:Hid (Below w.heap.size w W1):=zh (by rw [hW1];exact Hb1.out.setCell (zr _) _);have HEa:=zh (HE1.out.grown hg1 (by omega));have hsza:w.heap.size+2<=W1.heap.size:=by rw [hW1];simpa using hsz1
 clear hW1 hR1 hg1 x3 x4 xf HR1 HT1 Hb1 HE1;have x4:=HRa.out.cell (i:=4) rfl;go_wp2_with fail
 refine (HD.out _ Hba.out).mono ?_;rintro e2 w2 ⟨⟨r2,cs2,rfl,hown2,hX2⟩,hb2⟩;obtain ⟨a2,c2,rfl,_,_⟩:=Sl.form (Sl.of_own hown2);have HR2:=zh (HRa.out.below hb2 (zr _));have HT2:=zh (HTa.out.below hb2 (zr _));have Hb2:=zh (Hba.out.trans (hb2.mono Hba.out.size));have HE2:=zh (HEa.out.below hb2);have HF2:Hid (SsV w2 (w.heap.size+2) body (.slice a2 body.length c2)):=zh (SsV.of_own hown2 hX2.weak1 hsza);have hsz2:=yT hsza hb2.size;clear hown2 hX2 hb2 x4 HRa HTa Hba HEa;have x4:=HR2.out.cell (i:=4) rfl;have x5:=HR2.out.cell (i:=5) rfl;have xf:=HR2.out.free;go_upto_region 3 with (fail)
 obtain ⟨W2,hW2,hR2,hg2⟩:=set1 HR2.out 4 (.slice a2 body.length c2);rw [<- hW2];have HRb:=zh hR2;have HTb:=zh (HT2.out.grown hg2 (by simp));have Hbb:Hid (Below w.heap.size w W2):=zh (by rw [hW2];exact Hb2.out.setCell (zr _) _);have HEb:=zh (HE2.out.grown hg2 (by omega));have HFb:=zh (HF2.out.grown hg2 (by omega));have hszb:w.heap.size+2<=W2.heap.size:=by rw [hW2];simpa using hsz2
 clear hW2 hR2 hg2 x4 x5 xf HR2 HT2 Hb2 HE2 HF2;have x5:=HRb.out.cell (i:=5) rfl;go_wp2_with fail
 refine (HE.out _ Hbb.out).mono ?_;rintro e3 w3 ⟨⟨r3,cs3,rfl,hown3,hX3⟩,hb3⟩;obtain ⟨a3,c3,rfl,_,_⟩:=Sl.form (Sl.of_own hown3);have HR3:=zh (HRb.out.below hb3 (zr _));have HT3:=zh (HTb.out.below hb3 (zr _));have Hb3:=zh (Hbb.out.trans (hb3.mono Hbb.out.size));have HE3:=zh (HEb.out.below hb3);have HF3:=zh (HFb.out.below hb3);have HG3:Hid (SsV w3 (w.heap.size+2) els (.slice a3 els.length c3)):=zh (SsV.of_own hown3 hX3.weak1 hszb);clear hown3 hX3 hb3 x5 HRb HTb Hbb HEb HFb;have hRx:=HR3.out;obtain ⟨x0,x1,x2,x3,x4,x5⟩:=yc6 hRx;have xf:=hRx.free;have hTx:=HT3.out;obtain ⟨y0,y1,y2,y3,y4,y5⟩:=yc6 hTx;have yf:=hTx.free;clear hRx hTx;go_wp2_with fail
 refine yE (v:=.agg #[.int .u8 op,.int .i64 n,.string (bstr name),.slice a1 es.length c1,.slice a2 body.length c2,.slice a3 els.length c3]) (by simp [results,Try.results50,go_sem,y0,y1,y2,y3,y4,y5]) rfl ⟨⟨_,rfl,?_⟩,?_⟩
 ·exact stc_mk (m:=w.heap.size+2) (((((((HE3.out.set (by omega)).set (by omega)).set (by omega)).set (by omega)).set (by omega)).set (by omega)).set (by omega)) (((((((HF3.out.set (by omega)).set (by omega)).set (by omega)).set (by omega)).set (by omega)).set (by omega)).set (by omega)) (((((((HG3.out.set (by omega)).set (by omega)).set (by omega)).set (by omega)).set (by omega)).set (by omega)).set (by omega)) (by omega)
 ·exact ((((((Hb3.out.setCell (zr _) _).setCell (by simp) _).setCell (by simp) _).setCell (by simp) _).setCell (by simp) _).setCell (by simp) _).setCell (by simp) _
theorem copySs_any:∀ (m:Nat) (xs:List St) (v:Value) (w:World) (B:Nat),szSs xs < m->szSs xs<=1000000->SsL w B xs v->B<=w.heap.size ->
  Calls Try.prog 32 #[v] w (CopySs xs w):=by
 intro m
 induction m with
 | zero=>intro xs v w B h;omega
 | succ m ih =>
  intro xs v w B hm hsm hL hB;obtain ⟨a,cap,rfl,hc1,hc2⟩:=hL.form;have HL:=zh hL;have Hm:=zh hm;have Hih:=zh ih;have hlen:xs.length<=1000000:=yT (zs7 xs) hsm;clear hm hL ih;go_enter Try.func32,Try.ntmps32
  go_wp2_with fail
  go_loopw [3,4,5,6,7,8,9,10,11,12,13,14,15,16,17,18,19,20] (fun t3 t4 _ _ _ _ _ _ _ _ _ _ _ _ _ _ _ _ wr=>∃ (k:Nat) (cs:List Value),k<=xs.length/\t4=.int .i64 k/\wr.ownsRow w.heap.size 59 6 t3 k cs/\Hid (StsC wr (fun g=>w.heap.size<=g/\t3.ownBlock≠some g) (xs.take k) cs)/\Hid (Below w.heap.size w wr)) (fun _ t4 _ _ _ _ _ _ _ _ _ _ _ _ _ _ _ _ _=>xs.length - (intOf t4).toNat)
  case atStart=>exact ⟨0,[],by omega,by first | rfl | go_num,World.ownsRow_nil _ _ _ _,zh .nil,zh (yR _ _)⟩
  case round =>
   obtain ⟨k,cs,hk,rfl,hown,HX,HB⟩:=hrel;have hszr:=HB.out.size;by_cases hkl:k < xs.length
   ·have hki:(k:Int) < (xs.length:Int):=by omega
    have hcl:(xs.length:Int)<=1000000:=by omega
    have hLr:SsL wr B xs (.slice a xs.length cap):=HL.out.low (HB.out.mono hB);obtain ⟨b,off,op2,n2,name2,es,body,els,ae,ce,ab,cb,al,cl,rfl,hbB,hbw,hat,c0,c1,c2,c3,c4,c5,hE,hBd,hEl⟩:=hLr.at hkl;obtain ⟨hz1,hz2,hz3⟩:=szS_mk hat
    have HI:=zh (copyS_any op2 n2 name2 es body els _ _ _ wr ⟨ae,ce,rfl⟩ ⟨ab,cb,rfl⟩ ⟨al,cl,rfl⟩
     (fun w' hb=>copyEs_any _ es _ w' B (Nat.lt_succ_self _) (by omega) (hE.low (hb.mono (yT hB hszr))) (yT hB (yT hszr hb.size)))
     (fun w' hb=>Hih.out body _ w' B (by have:=Hm.out;omega) (by omega) (hBd.low (hb.mono (yT hB hszr))) (yT hB (yT hszr hb.size)))
     (fun w' hb=>Hih.out els _ w' B (by have:=Hm.out;omega) (by omega) (hEl.low (hb.mono (yT hB hszr))) (yT hB (yT hszr hb.size))))
    have Htk:Hid (xs.take (k+1)=xs.take k++[.mk op2 n2 name2 es body els]):=zh (by
     obtain ⟨h1,h2⟩:=List.getElem?_eq_some_iff.1 hat
     rw [List.take_succ_eq_append_getElem hkl,h2])
    clear hLr hat hE hBd hEl hz1 hz2 hz3;go_wp2_with fail
    refine HI.out.mono ?_;rintro e2 w2 ⟨⟨cx,rfl,hX2⟩,hb2⟩;obtain ⟨op,n,name,es,body,els,be,bb,bl,qe,qb,ql,hx,rfl⟩:=hX2.one;rw [hx] at Htk hX2;have HX2:=zh hX2;have Hb2:=zh hb2;have hs2:w.heap.size<=w2.heap.size:=yT hszr hb2.size;have hown2:=(zbu hown hb2 (zr _)).alloc (.cells #[.int .u8 op,.int .i64 n,.string (bstr name),.slice be es.length qe,.slice bb body.length qb,.slice bl els.length ql] 59);have Hbw:=zh ((HB.out.trans (hb2.mono hszr)).alloc hs2 (.cells #[.int .u8 op,.int .i64 n,.string (bstr name),.slice be es.length qe,.slice bb body.length qb,.slice bl els.length ql] 59));clear hX2 hb2 hx;go_wp2_with (at_builtin;refine zbj rfl (.tmp 17) (.tmp 19) 22 rfl hown2 zhj Try.underlying22 rfl (by decide) rfl 1 1 (by show Value.slice (some ⟨w2.heap.size+1,0,none⟩) 1 1=_;simp) rfl rfl (by unfold maxLen;omega) (by omega) Hbw.out.size ?_;intro v' w3 hown3 hg3 hb4 hat4)
    go_roundw
    case rel=>exact ⟨k+1,cs++[.int .u8 op,.int .i64 n,.string (bstr name),.slice be es.length qe,.slice bb body.length qb,.slice bl els.length ql],by omega,by go_num,hown3,zh (by rw [Htk.out];exact ziF hown HX.out Hb2.out HX2.out hszr ((yR _ _).alloc (zr _) _) hg3 hat4),zh (Hbw.out.trans hb4)⟩
    case measure=>simp [intOf];omega
   ·have hki:¬ (k:Int) < (xs.length:Int):=by omega
    have hke:k=xs.length:=by omega
    have Hown:Hid (wr.ownsRow w.heap.size 59 6 u3 xs.length cs):=zh (by rw [<- hke];exact hown);have HX2:Hid (StsC wr (fun g=>w.heap.size<=g/\u3.ownBlock≠some g) xs cs):=zh (by have:=HX.out;rw [hke,List.take_length] at this;exact this);clear hown HX;go_wp2_with fail
    go_ret;exact ⟨⟨_,cs,rfl,Hown.out,HX2.out⟩,HB.out⟩
def YesE (w : World) (e : Ending) (w' : World) : Prop := e = .returned (.bool true) /\ Below w.heap.size w w'
theorem zeT (op n:Int) (name:List UInt8) (args:List Ex) (va vb:Value) (w:World) (hva:∃ a cap,va=.slice a args.length cap) (hvb:∃ a cap,vb=.slice a args.length cap) (hC:∀ w',Below w.heap.size w w'->Calls Try.prog 66 #[va,vb] w' (YesE w')) :
  Calls Try.prog 91 #[.agg #[.int .u8 op,.int .i64 n,.string (bstr name),va],.agg #[.int .u8 op,.int .i64 n,.string (bstr name),vb]] w (YesE w):=by
 obtain ⟨a,cap,rfl⟩:=hva;obtain ⟨b,capb,rfl⟩:=hvb;have HC:=zh hC;clear hC;go_enter Try.func91,Try.ntmps91
 go_upto_region 1 with (fail)
 obtain ⟨W0,hW0,hb0,hR0,hT0,hsz⟩:=zbD w [.int .u8 op,.int .i64 n,.string (bstr name),.slice a args.length cap] [.int .u8 op,.int .i64 n,.string (bstr name),.slice b args.length capb] 65 65;rw [<- hW0];clear hW0;have Hb0:=zh hb0;obtain ⟨x0,x1,x2,x3⟩:=yc4 hR0;obtain ⟨y0,y1,y2,y3⟩:=yc4 hT0;clear hb0 hR0 hT0;go_wp2_with fail
 refine (HC.out _ Hb0.out).mono ?_;rintro e1 w1 ⟨rfl,hb1⟩;have Hb1:=zh (Hb0.out.trans (hb1.mono Hb0.out.size));clear hb1;go_wp2_with fail
 go_ret;exact ⟨rfl,Hb1.out⟩
theorem zes:∀ (m:Nat) (xs:List Ex) (va vb:Value) (w:World) (B:Nat),szEs xs < m->EsL w B xs va->EsL w B xs vb->B<=w.heap.size ->
  Calls Try.prog 66 #[va,vb] w (YesE w):=by
 intro m
 induction m with
 | zero=>intro xs va vb w B h;omega
 | succ m ih =>
  intro xs va vb w B hm hL hM hB;obtain ⟨a,cap,rfl,hc1,hc2⟩:=hL.form;obtain ⟨a',cap',rfl,hc1',hc2'⟩:=hM.form;have HL:=zh hL;have HM:=zh hM;have Hm:=zh hm;have Hih:=zh ih;clear hm hL hM ih;go_enter Try.func66,Try.ntmps66
  go_wp2_with fail
  go_loopw [4,5,11,12,13,14,15,16,17,18,19,20,21,22,23,24,25,26] (fun _ t5 _ _ _ _ _ _ _ _ _ _ _ _ _ _ _ _ wr=>∃ (k:Nat),k<=xs.length/\t5=.int .i64 k/\Hid (Below w.heap.size w wr)) (fun _ t5 _ _ _ _ _ _ _ _ _ _ _ _ _ _ _ _ _=>xs.length - (intOf t5).toNat)
  case atStart=>exact ⟨0,by omega,by first | rfl | go_num,zh (yR _ _)⟩
  case round =>
   obtain ⟨k,hk,rfl,HB⟩:=hrel;have hszr:=HB.out.size;by_cases hkl:k < xs.length
   ·have hki:(k:Int) < (xs.length:Int):=by omega
    have hcl:(xs.length:Int)<=9223372036854775807:=by omega
    have hLr:EsL wr B xs (.slice a xs.length cap):=HL.out.low (HB.out.mono hB);have hMr:EsL wr B xs (.slice a' xs.length cap'):=HM.out.low (HB.out.mono hB);obtain ⟨b,off,op2,n2,name2,args2,aa,ac,rfl,hbB,hbw,hat,c0,c1,c2,c3,hL2⟩:=hLr.at hkl;obtain ⟨b',off',op3,n3,name3,args3,aa',ac',rfl,hbB',hbw',hat',d0,d1,d2,d3,hM2⟩:=hMr.at hkl;rw [hat] at hat';cases hat';have hz:=zlL hat
    have HI:Hid (∀ N,Calls Try.prog 91 _ (wr.drewN N) (YesE (wr.drewN N))):=zh (fun N=>zeT op2 n2 name2 args2 _ _ (wr.drewN N) ⟨aa,ac,rfl⟩ ⟨aa',ac',rfl⟩ (fun w' hb=>by
     have hb:Below wr.heap.size wr w':=Below.trans (b:=wr.drewN N) ⟨rfl,rfl,rfl,zr _,fun _ _=>rfl⟩ hb
     exact Hih.out args2 _ _ w' B (by have:=Hm.out;omega) (hL2.low (hb.mono (yT hB hszr))) (hM2.low (hb.mono (yT hB hszr))) (yT hB (yT hszr hb.size))))
    clear hLr hat hL2 hz hMr hM2;go_wp2_with fail
    refine zaW 8 (DrewOf wr) (by kernel_rfl) (by kernel_rfl) (DrewOf.start _) ?_;simp only [List.take_succ_cons,List.take_zero,List.drop_succ_cons,List.drop_zero]
    repeat
     try simp only [Act.put,zs1,zs3,zs2]
     apply stepsSeq.cons
     ·rintro w' ⟨nq,rfl⟩;simp only [Act.put,zs1,zs3,zs2];go_wp2_with (fail)
      first | exact ⟨rfl,nq,rfl⟩ | exact ⟨rfl,nq,(World.drewN_drewN _ _ _).symm⟩ | exact ⟨rfl,nq,by simp⟩
    try simp only [Act.put,zs1,zs3,zs2]
    refine stepsSeq.nil ?_;rintro w' ⟨nq,rfl⟩;go_wp2_with fail
    refine (HI.out _).mono ?_;rintro e2 w2 ⟨rfl,hb2⟩;have HB2:Hid (Below w.heap.size w w2):=zh ((Below.drewN HB.out nq).trans (hb2.mono hszr));clear hb2;go_wp2_with fail
    go_roundw
    case rel=>exact ⟨k+1,by omega,by go_num,HB2⟩
    case measure=>simp [intOf];omega
   ·have hki:¬ (k:Int) < (xs.length:Int):=by omega
    go_wp2_with fail
    go_ret;exact ⟨rfl,HB.out⟩
theorem zlb (op n:Int) (name:List UInt8) (es:List Ex) (body els:List St) (va vb vc ua ub uc:Value) (w:World) (h1:∃ a cap,va=.slice a es.length cap) (h2:∃ a cap,vb=.slice a body.length cap) (h3:∃ a cap,vc=.slice a els.length cap) (h4:∃ a cap,ua=.slice a es.length cap) (h5:∃ a cap,ub=.slice a body.length cap) (h6:∃ a cap,uc=.slice a els.length cap)
  (hC:∀ w',Below w.heap.size w w'->Calls Try.prog 66 #[va,ua] w' (YesE w')) (hD:∀ w',Below w.heap.size w w'->Calls Try.prog 34 #[vb,ub] w' (YesE w')) (hE:∀ w',Below w.heap.size w w'->Calls Try.prog 34 #[vc,uc] w' (YesE w')) :
  Calls Try.prog 51 #[.agg #[.int .u8 op,.int .i64 n,.string (bstr name),va,vb,vc],.agg #[.int .u8 op,.int .i64 n,.string (bstr name),ua,ub,uc]] w (YesE w):=by
 obtain ⟨a1,p1,rfl⟩:=h1;obtain ⟨a2,p2,rfl⟩:=h2;obtain ⟨a3,p3,rfl⟩:=h3;obtain ⟨a4,p4,rfl⟩:=h4;obtain ⟨a5,p5,rfl⟩:=h5;obtain ⟨a6,p6,rfl⟩:=h6;have HC:=zh hC;have HD:=zh hD;have HE:=zh hE;clear hC hD hE;go_enter Try.func51,Try.ntmps51
 go_upto_region 1 with (fail)
 obtain ⟨W0,hW0,hb0,hR0,hT0,hsz⟩:=zbD w [.int .u8 op,.int .i64 n,.string (bstr name),.slice a1 es.length p1,.slice a2 body.length p2,.slice a3 els.length p3] [.int .u8 op,.int .i64 n,.string (bstr name),.slice a4 es.length p4,.slice a5 body.length p5,.slice a6 els.length p6] 59 59;rw [<- hW0];clear hW0;have Hb0:=zh hb0;have HR0:=zh hR0;have HT0:=zh hT0;obtain ⟨x0,x1,x2,x3⟩:=yc4 hR0;obtain ⟨y0,y1,y2,y3⟩:=yc4 hT0;clear hb0 hR0 hT0;go_wp2_with fail
 refine (HC.out _ Hb0.out).mono ?_;rintro e1 w1 ⟨rfl,hb1⟩;have x4:=(HR0.out.below hb1 (zr _)).cell (i:=4) rfl;have y4:=(HT0.out.below hb1 (zr _)).cell (i:=4) rfl;have Hb1:=zh (Hb0.out.trans (hb1.mono Hb0.out.size));have HR1:=zh (HR0.out.below hb1 (zr _));have HT1:=zh (HT0.out.below hb1 (zr _));clear hb1;go_wp2_with fail
 refine (HD.out _ Hb1.out).mono ?_;rintro e2 w2 ⟨rfl,hb2⟩;have x5:=(HR1.out.below hb2 (zr _)).cell (i:=5) rfl;have y5:=(HT1.out.below hb2 (zr _)).cell (i:=5) rfl;have Hb2:=zh (Hb1.out.trans (hb2.mono Hb1.out.size));clear hb2;go_wp2_with fail
 refine (HE.out _ Hb2.out).mono ?_;rintro e3 w3 ⟨rfl,hb3⟩;have Hb3:=zh (Hb2.out.trans (hb3.mono Hb2.out.size));clear hb3;go_wp2_with fail
 go_ret;exact ⟨rfl,Hb3.out⟩
theorem zjX:∀ (m:Nat) (xs:List St) (va vb:Value) (w:World) (B:Nat),szSs xs < m->SsL w B xs va->SsL w B xs vb->B<=w.heap.size ->
  Calls Try.prog 34 #[va,vb] w (YesE w):=by
 intro m
 induction m with
 | zero=>intro xs va vb w B h;omega
 | succ m ih =>
  intro xs va vb w B hm hL hM hB;obtain ⟨a,cap,rfl,hc1,hc2⟩:=hL.form;obtain ⟨a',cap',rfl,hc1',hc2'⟩:=hM.form;have HL:=zh hL;have HM:=zh hM;have Hm:=zh hm;have Hih:=zh ih;clear hm hL hM ih;go_enter Try.func34,Try.ntmps34
  go_wp2_with fail
  go_loopw [4,5,11,12,13,14,15,16,17,18,19,20,21,22,23,24,25,26] (fun _ t5 _ _ _ _ _ _ _ _ _ _ _ _ _ _ _ _ wr=>∃ (k:Nat),k<=xs.length/\t5=.int .i64 k/\Hid (Below w.heap.size w wr)) (fun _ t5 _ _ _ _ _ _ _ _ _ _ _ _ _ _ _ _ _=>xs.length - (intOf t5).toNat)
  case atStart=>exact ⟨0,by omega,by first | rfl | go_num,zh (yR _ _)⟩
  case round =>
   obtain ⟨k,hk,rfl,HB⟩:=hrel;have hszr:=HB.out.size;by_cases hkl:k < xs.length
   ·have hki:(k:Int) < (xs.length:Int):=by omega
    have hcl:(xs.length:Int)<=9223372036854775807:=by omega
    have hLr:SsL wr B xs (.slice a xs.length cap):=HL.out.low (HB.out.mono hB);have hMr:SsL wr B xs (.slice a' xs.length cap'):=HM.out.low (HB.out.mono hB);obtain ⟨b,off,op2,n2,name2,es,body,els,ae,ce,ab,cb,al,cl,rfl,hbB,hbw,hat,c0,c1,c2,c3,c4,c5,hE,hBd,hEl⟩:=hLr.at hkl;obtain ⟨b',off',op3,n3,name3,es',body',els',ae',ce',ab',cb',al',cl',rfl,hbB',hbw',hat',d0,d1,d2,d3,d4,d5,hE',hBd',hEl'⟩:=hMr.at hkl;rw [hat] at hat';cases hat';obtain ⟨hz1,hz2,hz3⟩:=szS_mk hat
    have HI:Hid (∀ N,Calls Try.prog 51 _ (wr.drewN N) (YesE (wr.drewN N))):=zh (fun N=>by
     have hbN:∀ {w'},Below (wr.drewN N).heap.size (wr.drewN N) w'->Below wr.heap.size wr w':=fun hb=>Below.trans (b:=wr.drewN N) ⟨rfl,rfl,rfl,zr _,fun _ _=>rfl⟩ hb
     exact zlb op2 n2 name2 es body els _ _ _ _ _ _ (wr.drewN N) ⟨ae,ce,rfl⟩ ⟨ab,cb,rfl⟩ ⟨al,cl,rfl⟩ ⟨ae',ce',rfl⟩ ⟨ab',cb',rfl⟩ ⟨al',cl',rfl⟩
      (fun w' hb=>zes _ es _ _ w' B (Nat.lt_succ_self _) (hE.low ((hbN hb).mono (yT hB hszr))) (hE'.low ((hbN hb).mono (yT hB hszr))) (yT hB (yT hszr (hbN hb).size)))
      (fun w' hb=>Hih.out body _ _ w' B (by have:=Hm.out;omega) (hBd.low ((hbN hb).mono (yT hB hszr))) (hBd'.low ((hbN hb).mono (yT hB hszr))) (yT hB (yT hszr (hbN hb).size)))
      (fun w' hb=>Hih.out els _ _ w' B (by have:=Hm.out;omega) (hEl.low ((hbN hb).mono (yT hB hszr))) (hEl'.low ((hbN hb).mono (yT hB hszr))) (yT hB (yT hszr (hbN hb).size))))
    clear hLr hat hE hBd hEl hE' hBd' hEl' hz1 hz2 hz3 hMr;go_wp2_with fail
    refine zaW 8 (DrewOf wr) (by kernel_rfl) (by kernel_rfl) (DrewOf.start _) ?_;simp only [List.take_succ_cons,List.take_zero,List.drop_succ_cons,List.drop_zero]
    repeat
     try simp only [Act.put,zs1,zs3,zs2]
     apply stepsSeq.cons
     ·rintro w' ⟨nq,rfl⟩;simp only [Act.put,zs1,zs3,zs2];go_wp2_with (fail)
      first | exact ⟨rfl,nq,rfl⟩ | exact ⟨rfl,nq,(World.drewN_drewN _ _ _).symm⟩ | exact ⟨rfl,nq,by simp⟩
    try simp only [Act.put,zs1,zs3,zs2]
    refine stepsSeq.nil ?_;rintro w' ⟨nq,rfl⟩;go_wp2_with fail
    refine (HI.out _).mono ?_;rintro e2 w2 ⟨rfl,hb2⟩;have HB2:Hid (Below w.heap.size w w2):=zh ((Below.drewN HB.out nq).trans (hb2.mono hszr));clear hb2;go_wp2_with fail
    go_roundw
    case rel=>exact ⟨k+1,by omega,by go_num,HB2⟩
    case measure=>simp [intOf];omega
   ·have hki:¬ (k:Int) < (xs.length:Int):=by omega
    go_wp2_with fail
    go_ret;exact ⟨rfl,HB.out⟩
end Go.Proofs.Ytdeneckmoejcfaa

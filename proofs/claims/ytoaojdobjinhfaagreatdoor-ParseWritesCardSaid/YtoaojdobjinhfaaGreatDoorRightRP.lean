/- The reference's Lex, walked: what it gives is what the bytes say. No condition but the size that every string has. -/
import Derived.Test.YtoaojdobjinhfaaGreatDoorFineRS
import Derived.Test.YtoaojdobjinhfaaGreatDoorKitCC
set_option linter.unusedSimpArgs false
set_option linter.unusedVariables false
set_option maxRecDepth 100000
set_option maxHeartbeats 4000000
namespace Go.Proofs.YtoaojdobjinhfaaGreatDoor
open Go.RowKit

theorem ziC (xs ys:List St):szSs (xs++ys)=szSs xs+szSs ys:=by
 induction xs with
 | nil=>simp [szSs]
 | cons x r ih=>simp only [List.cons_append,szSs,ih];omega
theorem zlM {xs:List St} {k:Nat} {x:St} (h:xs[k]? = some x):szSs (xs.take (k+1))=szSs (xs.take k)+szS x:=by
 obtain ⟨hlt,rfl⟩:=List.getElem?_eq_some_iff.1 h;rw [List.take_succ_eq_append_getElem hlt,ziC];rfl
theorem znt {xs:List St} {k:Nat} {x:St} (h:xs[k]? = some x):szS x≤szSs xs:=by
 have:=ziC (xs.take (k+1)) (xs.drop (k+1));rw [List.take_append_drop,zlM h] at this;omega
theorem szE_pos (x:Ex):1≤szE x:=by cases x;simp only [szE];omega
theorem szS_pos (x:St):1≤szS x:=by cases x;simp only [szS];omega
theorem szEs_len (xs:List Ex):xs.length≤szEs xs:=by
 induction xs with
 | nil=>simp [szEs]
 | cons x r ih=>have:=szE_pos x;simp only [List.length_cons,szEs];omega
theorem szSs_len (xs:List St):xs.length≤szSs xs:=by
 induction xs with
 | nil=>simp [szSs]
 | cons x r ih=>have:=szS_pos x;simp only [List.length_cons,szSs];omega

theorem szS_mk {xs:List St} {k:Nat} {op n:Int} {name:List UInt8} {es:List Ex} {body els:List St} (h:xs[k]? = some (.mk op n name es body els)):szEs es < szSs xs∧szSs body < szSs xs∧szSs els < szSs xs:=by
 have:=znt h;simp only [szS] at this;omega

theorem ExsC.weak1 {w:World} {P Q:Nat→Prop} {xs:List Ex} {cs:List Value} (h:ExsC w (fun g=>P g∧Q g) xs cs):ExsC w P xs cs:=h.weak fun _ _ h=>h.1
theorem zfV {wr w2 W0 w3:World} {B:Nat} {e:TypeId} {v v':Value} {k:Nat} {xs:List Ex} {x:Ex} {cs cx:List Value} (hown:wr.ownsRow B e 4 v k cs) (hX:ExsC wr (fun g=>B≤g∧v.ownBlock≠some g) xs cs)
  (hb2:Below wr.heap.size wr w2) (hX2:ExsC w2 (fun g=>wr.heap.size≤g) [x] cx) (hB:B≤wr.heap.size) (hb3:Below w2.heap.size w2 W0)
  (hg:W0.grownBy w3 v.ownBlock) (hat:v'.ownBlock=v.ownBlock∨∃ g,v'.ownBlock=some g∧W0.heap.size≤g):ExsC w3 (fun g=>B≤g∧v'.ownBlock≠some g) (xs++[x]) (cs++cx):=by
 have hlt:∀ g,v.ownBlock=some g→g < wr.heap.size:=fun g hg=>(hown.lt g hg).2
 have h1:ExsC W0 (fun g=>B≤g∧v.ownBlock≠some g) xs cs:=(hX.under hb2 (zr _)).under hb3 (zr _);have h2:ExsC W0 (fun g=>B≤g∧v.ownBlock≠some g) [x] cx:=(hX2.under hb3 (zr _)).weak fun g _ h=>⟨Nat.le_trans hB h,fun e=>by have:=hlt g e;omega⟩
 have h3:ExsC W0 (fun g=>(B≤g∧v'.ownBlock≠some g)∧v.ownBlock≠some g) (xs++[x]) (cs++cx):=(h1.append h2).weak fun g hlt h=>⟨⟨h.1,fun e=>by
  rcases hat with hat | ⟨g',hg',hle⟩
  ·exact h.2 (hat ▸ e)
  ·rw [hg'] at e;cases e;omega⟩,h.2⟩
 exact (h3.grown hg (fun g e h=>h.2 e)).weak fun g _ h=>h.1
theorem ziF {wr w2 W0 w3:World} {B:Nat} {e:TypeId} {v v':Value} {k:Nat} {xs:List St} {x:St} {cs cx:List Value} (hown:wr.ownsRow B e 6 v k cs) (hX:StsC wr (fun g=>B≤g∧v.ownBlock≠some g) xs cs)
  (hb2:Below wr.heap.size wr w2) (hX2:StsC w2 (fun g=>wr.heap.size≤g) [x] cx) (hB:B≤wr.heap.size) (hb3:Below w2.heap.size w2 W0)
  (hg:W0.grownBy w3 v.ownBlock) (hat:v'.ownBlock=v.ownBlock∨∃ g,v'.ownBlock=some g∧W0.heap.size≤g):StsC w3 (fun g=>B≤g∧v'.ownBlock≠some g) (xs++[x]) (cs++cx):=by
 have hlt:∀ g,v.ownBlock=some g→g < wr.heap.size:=fun g hg=>(hown.lt g hg).2
 have h1:StsC W0 (fun g=>B≤g∧v.ownBlock≠some g) xs cs:=(hX.under hb2 (zr _)).under hb3 (zr _);have h2:StsC W0 (fun g=>B≤g∧v.ownBlock≠some g) [x] cx:=(hX2.under hb3 (zr _)).weak fun g _ h=>⟨Nat.le_trans hB h,fun e=>by have:=hlt g e;omega⟩
 have h3:StsC W0 (fun g=>(B≤g∧v'.ownBlock≠some g)∧v.ownBlock≠some g) (xs++[x]) (cs++cx):=(h1.append h2).weak fun g hlt h=>⟨⟨h.1,fun e=>by
  rcases hat with hat | ⟨g',hg',hle⟩
  ·exact h.2 (hat ▸ e)
  ·rw [hg'] at e;cases e;omega⟩,h.2⟩
 exact (h3.grown hg (fun g e h=>h.2 e)).weak fun g _ h=>h.1

theorem zhj:(Tryz.prog.info? 56).map (fun i=>(i.zero,i.size,i.bytes))=some (some (.agg #[.int .u8 0,.int .i64 0,.string ByteArray.empty,.slice none 0 0,.slice none 0 0,.slice none 0 0]),6,104):=by kernel_rfl
theorem zc6 {w:World} {m B:Nat} {op n:Int} {name:List UInt8} {es:List Ex} {body els:List St} {ve vb vl:Value} (h1:EsV w m es ve) (h2:SsV w m body vb) (h3:SsV w m els vl) (hB:B≤m):StV w (fun g=>B≤g) (.mk op n name es body els) (.agg #[.int .u8 op,.int .i64 n,.string (bstr name),ve,vb,vl]):=by
 obtain ⟨c1,a1,a2,a3⟩:=h1;obtain ⟨c2,b1,b2,b3⟩:=h2;obtain ⟨c3,d1,d2,d3⟩:=h3;exact ⟨_,rfl,(StsC.cons (P:=fun g=>m≤g) a1 a2 a3 b1 b2 b3 d1 d2 d3 .nil).weak fun g _ h=>Nat.le_trans hB h⟩
def zbh : List Value := [.int .u8 0, .int .i64 0, .string { data := #[] }, .slice none 0 0, .slice none 0 0, .slice none 0 0]
theorem set1 {W:World} {g:Nat} {e:TypeId} {vs:List Value} (h:OwnV W g e vs) (i:Nat) (v:Value):∃ W',W'=W.setCell ⟨g,i,none⟩ v∧OwnV W' g e (vs.set i v)∧W.grownBy W' (some g):=⟨_,rfl,h.set i v,zaY _ _ _ _⟩

def CopyEs (xs : List Ex) (w : World) (e : Ending) (w' : World) : Prop := (∃ r cs, e = .returned r ∧ w'.ownsRow w.heap.size 29 4 r xs.length cs ∧ ExsC w' (fun g => w.heap.size ≤ g ∧ r.ownBlock ≠ some g) xs cs) ∧ Below w.heap.size w w'
def CopyE1 (x : Ex) (w : World) (e : Ending) (w' : World) : Prop := (∃ cs : List Value, e = .returned (.agg cs.toArray) ∧ ExsC w' (fun g => w.heap.size ≤ g) [x] cs) ∧ Below w.heap.size w w'
theorem copyE_any (op n:Int) (name:List UInt8) (args:List Ex) (v:Value) (w:World) (hv:∃ a cap,v=.slice a args.length cap) (hC:∀ w',Below w.heap.size w w'→Calls Tryz.prog 118 #[v] w' (CopyEs args w')) :
  Calls Tryz.prog 149 #[.agg #[.int .u8 op,.int .i64 n,.string (bstr name),v]] w (CopyE1 (.mk op n name args) w):=by
 obtain ⟨a,cap,rfl⟩:=hv;have HC:=zh hC;clear hC;go_enter Tryz.func149,Tryz.ntmps149
 go_upto_region 1 with (fail)
 obtain ⟨W0,hW0,hb0,hR0,hT0,hsz⟩:=zbD w [.int .u8 op,.int .i64 n,.string (bstr name),.slice a args.length cap] zeroE 29 29;simp only [zeroE] at hW0;rw [← hW0];clear hW0;have Hb0:=zh hb0;have HR0:=zh hR0;have HT0:=zh hT0;have x3:=hR0.cell (i:=3) rfl;clear hb0 hR0 hT0;go_wp2_with fail
 refine (HC.out _ Hb0.out).mono ?_;rintro e1 w1 ⟨⟨r,cs,rfl,hown,hX⟩,hb1⟩;obtain ⟨ra,rcap,rfl,_,_⟩:=Sl.form (Sl.of_own hown);have HR1:=zh (HR0.out.below hb1 (zr _));have HT1:=zh (HT0.out.below hb1 (zr _));have Hb1:=zh (Hb0.out.trans (hb1.mono Hb0.out.size));have HE1:Hid (EsV w1 (w.heap.size+2) args (.slice ra args.length rcap)):=zh (EsV.of_own hown hX.weak1 hsz);clear hown hX hb1 x3 HR0 HT0;have hRx:=HR1.out;have x0:=hRx.cell (i:=0) rfl;have x1:=hRx.cell (i:=1) rfl;have x2:=hRx.cell (i:=2) rfl;have x3:=hRx.cell (i:=3) rfl;have xf:=hRx.free;have hTx:=HT1.out;have y0:=hTx.cell (i:=0) rfl;have y1:=hTx.cell (i:=1) rfl;have y2:=hTx.cell (i:=2) rfl;have y3:=hTx.cell (i:=3) rfl;have yf:=hTx.free;clear hRx hTx;go_wp2_with fail
 refine bodyPost_ret (v:=.agg #[.int .u8 op,.int .i64 n,.string (bstr name),.slice ra args.length rcap]) (by simp [results,Tryz.results149,go_sem,y0,y1,y2,y3]) rfl ⟨⟨_,rfl,?_⟩,?_⟩
 ·exact (((((HE1.out.set (by omega)).set (by omega)).set (by omega)).set (by omega)).set (by omega)).one (by omega)
 ·exact ((((Hb1.out.setCell (zr _) _).setCell (by simp) _).setCell (by simp) _).setCell (by simp) _).setCell (by simp) _
theorem copyEs_any:∀ (m:Nat) (xs:List Ex) (v:Value) (w:World) (B:Nat),szEs xs < m→szEs xs≤1000000→EsL w B xs v→B≤w.heap.size →
  Calls Tryz.prog 118 #[v] w (CopyEs xs w):=by
 intro m
 induction m with
 | zero=>intro xs v w B h;omega
 | succ m ih =>
  intro xs v w B hm hsm hL hB;obtain ⟨a,cap,rfl,hc1,hc2⟩:=hL.form;have HL:=zh hL;have Hm:=zh hm;have Hih:=zh ih;have hlen:xs.length≤1000000:=Nat.le_trans (szEs_len xs) hsm;clear hm hL ih;go_enter Tryz.func118,Tryz.ntmps118
  go_wp2_with fail
  go_loopw [3,4,5,6,7,8,9,10,11,12,13,14,15,16,17,18,19,20] (fun t3 t4 _ _ _ _ _ _ _ _ _ _ _ _ _ _ _ _ wr=>∃ (k:Nat) (cs:List Value),k≤xs.length∧t4=.int .i64 k∧wr.ownsRow w.heap.size 29 4 t3 k cs∧Hid (ExsC wr (fun g=>w.heap.size≤g∧t3.ownBlock≠some g) (xs.take k) cs)∧Hid (Below w.heap.size w wr)) (fun _ t4 _ _ _ _ _ _ _ _ _ _ _ _ _ _ _ _ _=>xs.length - (intOf t4).toNat)
  case atStart=>exact ⟨0,[],by omega,by first | rfl | go_num,World.ownsRow_nil _ _ _ _,zh .nil,zh (Below.refl _ _)⟩
  case round =>
   obtain ⟨k,cs,hk,rfl,hown,HX,HB⟩:=hrel;have hszr:=HB.out.size;by_cases hkl:k < xs.length
   ·have hki:(k:Int) < (xs.length:Int):=by omega
    have hcl:(xs.length:Int)≤1000000:=by omega
    have hLr:EsL wr B xs (.slice a xs.length cap):=HL.out.low (HB.out.mono hB);obtain ⟨b,off,op2,n2,name2,args2,aa,ac,rfl,hbB,hbw,hat,c0,c1,c2,c3,hL2⟩:=hLr.at hkl;have hz:=zlL hat;have HI:=zh (copyE_any op2 n2 name2 args2 _ wr ⟨aa,ac,rfl⟩ (fun w' hb=>Hih.out args2 _ w' B (by have:=Hm.out;omega) (by omega) (hL2.low (hb.mono (Nat.le_trans hB hszr))) (Nat.le_trans hB (Nat.le_trans hszr hb.size))))
    have Htk:Hid (xs.take (k+1)=xs.take k++[.mk op2 n2 name2 args2]):=zh (by
     obtain ⟨h1,h2⟩:=List.getElem?_eq_some_iff.1 hat
     rw [List.take_succ_eq_append_getElem hkl,h2])
    clear hLr hat hL2 hz;go_wp2_with fail
    refine HI.out.mono ?_;rintro e2 w2 ⟨⟨cx,rfl,hX2⟩,hb2⟩;obtain ⟨op,n,name,args,ad,cp,hx,rfl⟩:=hX2.one;rw [hx] at Htk hX2;have HX2:=zh hX2;have Hb2:=zh hb2;have hs2:w.heap.size≤w2.heap.size:=Nat.le_trans hszr hb2.size;have hown2:=(zbu hown hb2 (zr _)).alloc (.cells #[.int .u8 op,.int .i64 n,.string (bstr name),.slice ad args.length cp] 29);have Hbw:=zh ((HB.out.trans (hb2.mono hszr)).alloc hs2 (.cells #[.int .u8 op,.int .i64 n,.string (bstr name),.slice ad args.length cp] 29));clear hX2 hb2 hx;go_wp2_with (at_builtin;refine zbj rfl (.tmp 17) (.tmp 19) 27 rfl hown2 zbx Tryz.underlying27 rfl (by decide) rfl 1 1 (by show Value.slice (some ⟨w2.heap.size+1,0,none⟩) 1 1=_;simp) rfl rfl (by unfold maxLen;omega) (by omega) Hbw.out.size ?_;intro v' w3 hown3 hg3 hb4 hat4)
    go_roundw
    case rel=>exact ⟨k+1,cs++[.int .u8 op,.int .i64 n,.string (bstr name),.slice ad args.length cp],by omega,by go_num,hown3,zh (by rw [Htk.out];exact zfV hown HX.out Hb2.out HX2.out hszr ((Below.refl _ _).alloc (zr _) _) hg3 hat4),zh (Hbw.out.trans hb4)⟩
    case measure=>simp [intOf];omega
   ·have hki:¬ (k:Int) < (xs.length:Int):=by omega
    have hke:k=xs.length:=by omega
    have Hown:Hid (wr.ownsRow w.heap.size 29 4 u3 xs.length cs):=zh (by rw [← hke];exact hown);have HX2:Hid (ExsC wr (fun g=>w.heap.size≤g∧u3.ownBlock≠some g) xs cs):=zh (by have:=HX.out;rw [hke,List.take_length] at this;exact this);clear hown HX;go_wp2_with fail
    go_ret;exact ⟨⟨_,cs,rfl,Hown.out,HX2.out⟩,HB.out⟩
def CopySs (xs : List St) (w : World) (e : Ending) (w' : World) : Prop := (∃ r cs, e = .returned r ∧ w'.ownsRow w.heap.size 56 6 r xs.length cs ∧ StsC w' (fun g => w.heap.size ≤ g ∧ r.ownBlock ≠ some g) xs cs) ∧ Below w.heap.size w w'
def CopyS1 (x : St) (w : World) (e : Ending) (w' : World) : Prop := (∃ cs : List Value, e = .returned (.agg cs.toArray) ∧ StsC w' (fun g => w.heap.size ≤ g) [x] cs) ∧ Below w.heap.size w w'
theorem StsC.weak1 {w:World} {P Q:Nat→Prop} {xs:List St} {cs:List Value} (h:StsC w (fun g=>P g∧Q g) xs cs):StsC w P xs cs:=h.weak fun _ _ h=>h.1
theorem stc_mk {w:World} {m B:Nat} {op n:Int} {name:List UInt8} {es:List Ex} {body els:List St} {ve vb vl:Value} (h1:EsV w m es ve) (h2:SsV w m body vb) (h3:SsV w m els vl) (hB:B≤m):StsC w (fun g=>B≤g) [.mk op n name es body els] [.int .u8 op,.int .i64 n,.string (bstr name),ve,vb,vl]:=by
 obtain ⟨cs,h,hc⟩:=zc6 (op:=op) (n:=n) (name:=name) h1 h2 h3 hB
 have e:cs=[.int .u8 op,.int .i64 n,.string (bstr name),ve,vb,vl]:=by
  have:=congrArg (fun v=>match v with | .agg a=>a.toList | _=>[]) h;simpa using this.symm
 rw [e] at hc;exact hc
theorem copyS_any (op n:Int) (name:List UInt8) (es:List Ex) (body els:List St) (ve vb vl:Value) (w:World) (hve:∃ a cap,ve=.slice a es.length cap) (hvb:∃ a cap,vb=.slice a body.length cap) (hvl:∃ a cap,vl=.slice a els.length cap)
  (hC:∀ w',Below w.heap.size w w'→Calls Tryz.prog 118 #[ve] w' (CopyEs es w')) (hD:∀ w',Below w.heap.size w w'→Calls Tryz.prog 42 #[vb] w' (CopySs body w')) (hE:∀ w',Below w.heap.size w w'→Calls Tryz.prog 42 #[vl] w' (CopySs els w')) :
  Calls Tryz.prog 73 #[.agg #[.int .u8 op,.int .i64 n,.string (bstr name),ve,vb,vl]] w (CopyS1 (.mk op n name es body els) w):=by
 obtain ⟨ae,pe,rfl⟩:=hve;obtain ⟨ab,pb,rfl⟩:=hvb;obtain ⟨al,pl,rfl⟩:=hvl;have HC:=zh hC;have HD:=zh hD;have HE:=zh hE;clear hC hD hE;go_enter Tryz.func73,Tryz.ntmps73
 go_upto_region 1 with (fail)
 obtain ⟨W0,hW0,hb0,hR0,hT0,hsz⟩:=zbD w [.int .u8 op,.int .i64 n,.string (bstr name),.slice ae es.length pe,.slice ab body.length pb,.slice al els.length pl] zbh 56 56;simp only [zbh] at hW0;rw [← hW0];clear hW0;have Hb0:=zh hb0;have HR0:=zh hR0;have HT0:=zh hT0;have x3:=hR0.cell (i:=3) rfl;clear hb0 hR0 hT0;go_wp2_with fail
 refine (HC.out _ Hb0.out).mono ?_;rintro e1 w1 ⟨⟨r1,cs1,rfl,hown1,hX1⟩,hb1⟩;obtain ⟨a1,c1,rfl,_,_⟩:=Sl.form (Sl.of_own hown1);have HR1:=zh (HR0.out.below hb1 (zr _));have HT1:=zh (HT0.out.below hb1 (zr _));have Hb1:=zh (Hb0.out.trans (hb1.mono Hb0.out.size));have HE1:Hid (EsV w1 (w.heap.size+2) es (.slice a1 es.length c1)):=zh (EsV.of_own hown1 hX1.weak1 hsz);have hsz1:=Nat.le_trans hsz hb1.size;clear hown1 hX1 hb1 x3 HR0 HT0 Hb0;have x3:=HR1.out.cell (i:=3) rfl;have x4:=HR1.out.cell (i:=4) rfl;have xf:=HR1.out.free;go_upto_region 2 with (fail)
 obtain ⟨W1,hW1,hR1,hg1⟩:=set1 HR1.out 3 (.slice a1 es.length c1);rw [← hW1];have HRa:=zh hR1;have HTa:=zh (HT1.out.grown hg1 (by simp));have Hba:Hid (Below w.heap.size w W1):=zh (by rw [hW1];exact Hb1.out.setCell (zr _) _);have HEa:=zh (HE1.out.grown hg1 (by omega));have hsza:w.heap.size+2≤W1.heap.size:=by rw [hW1];simpa using hsz1
 clear hW1 hR1 hg1 x3 x4 xf HR1 HT1 Hb1 HE1;have x4:=HRa.out.cell (i:=4) rfl;go_wp2_with fail
 refine (HD.out _ Hba.out).mono ?_;rintro e2 w2 ⟨⟨r2,cs2,rfl,hown2,hX2⟩,hb2⟩;obtain ⟨a2,c2,rfl,_,_⟩:=Sl.form (Sl.of_own hown2);have HR2:=zh (HRa.out.below hb2 (zr _));have HT2:=zh (HTa.out.below hb2 (zr _));have Hb2:=zh (Hba.out.trans (hb2.mono Hba.out.size));have HE2:=zh (HEa.out.below hb2);have HF2:Hid (SsV w2 (w.heap.size+2) body (.slice a2 body.length c2)):=zh (SsV.of_own hown2 hX2.weak1 hsza);have hsz2:=Nat.le_trans hsza hb2.size;clear hown2 hX2 hb2 x4 HRa HTa Hba HEa;have x4:=HR2.out.cell (i:=4) rfl;have x5:=HR2.out.cell (i:=5) rfl;have xf:=HR2.out.free;go_upto_region 3 with (fail)
 obtain ⟨W2,hW2,hR2,hg2⟩:=set1 HR2.out 4 (.slice a2 body.length c2);rw [← hW2];have HRb:=zh hR2;have HTb:=zh (HT2.out.grown hg2 (by simp));have Hbb:Hid (Below w.heap.size w W2):=zh (by rw [hW2];exact Hb2.out.setCell (zr _) _);have HEb:=zh (HE2.out.grown hg2 (by omega));have HFb:=zh (HF2.out.grown hg2 (by omega));have hszb:w.heap.size+2≤W2.heap.size:=by rw [hW2];simpa using hsz2
 clear hW2 hR2 hg2 x4 x5 xf HR2 HT2 Hb2 HE2 HF2;have x5:=HRb.out.cell (i:=5) rfl;go_wp2_with fail
 refine (HE.out _ Hbb.out).mono ?_;rintro e3 w3 ⟨⟨r3,cs3,rfl,hown3,hX3⟩,hb3⟩;obtain ⟨a3,c3,rfl,_,_⟩:=Sl.form (Sl.of_own hown3);have HR3:=zh (HRb.out.below hb3 (zr _));have HT3:=zh (HTb.out.below hb3 (zr _));have Hb3:=zh (Hbb.out.trans (hb3.mono Hbb.out.size));have HE3:=zh (HEb.out.below hb3);have HF3:=zh (HFb.out.below hb3);have HG3:Hid (SsV w3 (w.heap.size+2) els (.slice a3 els.length c3)):=zh (SsV.of_own hown3 hX3.weak1 hszb);clear hown3 hX3 hb3 x5 HRb HTb Hbb HEb HFb;have hRx:=HR3.out;have x0:=hRx.cell (i:=0) rfl;have x1:=hRx.cell (i:=1) rfl;have x2:=hRx.cell (i:=2) rfl;have x3:=hRx.cell (i:=3) rfl;have x4:=hRx.cell (i:=4) rfl;have x5:=hRx.cell (i:=5) rfl;have xf:=hRx.free;have hTx:=HT3.out;have y0:=hTx.cell (i:=0) rfl;have y1:=hTx.cell (i:=1) rfl;have y2:=hTx.cell (i:=2) rfl;have y3:=hTx.cell (i:=3) rfl;have y4:=hTx.cell (i:=4) rfl;have y5:=hTx.cell (i:=5) rfl;have yf:=hTx.free;clear hRx hTx;go_wp2_with fail
 refine bodyPost_ret (v:=.agg #[.int .u8 op,.int .i64 n,.string (bstr name),.slice a1 es.length c1,.slice a2 body.length c2,.slice a3 els.length c3]) (by simp [results,Tryz.results73,go_sem,y0,y1,y2,y3,y4,y5]) rfl ⟨⟨_,rfl,?_⟩,?_⟩
 ·exact stc_mk (m:=w.heap.size+2) (((((((HE3.out.set (by omega)).set (by omega)).set (by omega)).set (by omega)).set (by omega)).set (by omega)).set (by omega)) (((((((HF3.out.set (by omega)).set (by omega)).set (by omega)).set (by omega)).set (by omega)).set (by omega)).set (by omega)) (((((((HG3.out.set (by omega)).set (by omega)).set (by omega)).set (by omega)).set (by omega)).set (by omega)).set (by omega)) (by omega)
 ·exact ((((((Hb3.out.setCell (zr _) _).setCell (by simp) _).setCell (by simp) _).setCell (by simp) _).setCell (by simp) _).setCell (by simp) _).setCell (by simp) _
theorem copySs_any:∀ (m:Nat) (xs:List St) (v:Value) (w:World) (B:Nat),szSs xs < m→szSs xs≤1000000→SsL w B xs v→B≤w.heap.size →
  Calls Tryz.prog 42 #[v] w (CopySs xs w):=by
 intro m
 induction m with
 | zero=>intro xs v w B h;omega
 | succ m ih =>
  intro xs v w B hm hsm hL hB;obtain ⟨a,cap,rfl,hc1,hc2⟩:=hL.form;have HL:=zh hL;have Hm:=zh hm;have Hih:=zh ih;have hlen:xs.length≤1000000:=Nat.le_trans (szSs_len xs) hsm;clear hm hL ih;go_enter Tryz.func42,Tryz.ntmps42
  go_wp2_with fail
  go_loopw [3,4,5,6,7,8,9,10,11,12,13,14,15,16,17,18,19,20] (fun t3 t4 _ _ _ _ _ _ _ _ _ _ _ _ _ _ _ _ wr=>∃ (k:Nat) (cs:List Value),k≤xs.length∧t4=.int .i64 k∧wr.ownsRow w.heap.size 56 6 t3 k cs∧Hid (StsC wr (fun g=>w.heap.size≤g∧t3.ownBlock≠some g) (xs.take k) cs)∧Hid (Below w.heap.size w wr)) (fun _ t4 _ _ _ _ _ _ _ _ _ _ _ _ _ _ _ _ _=>xs.length - (intOf t4).toNat)
  case atStart=>exact ⟨0,[],by omega,by first | rfl | go_num,World.ownsRow_nil _ _ _ _,zh .nil,zh (Below.refl _ _)⟩
  case round =>
   obtain ⟨k,cs,hk,rfl,hown,HX,HB⟩:=hrel;have hszr:=HB.out.size;by_cases hkl:k < xs.length
   ·have hki:(k:Int) < (xs.length:Int):=by omega
    have hcl:(xs.length:Int)≤1000000:=by omega
    have hLr:SsL wr B xs (.slice a xs.length cap):=HL.out.low (HB.out.mono hB);obtain ⟨b,off,op2,n2,name2,es,body,els,ae,ce,ab,cb,al,cl,rfl,hbB,hbw,hat,c0,c1,c2,c3,c4,c5,hE,hBd,hEl⟩:=hLr.at hkl;obtain ⟨hz1,hz2,hz3⟩:=szS_mk hat
    have HI:=zh (copyS_any op2 n2 name2 es body els _ _ _ wr ⟨ae,ce,rfl⟩ ⟨ab,cb,rfl⟩ ⟨al,cl,rfl⟩
     (fun w' hb=>copyEs_any _ es _ w' B (Nat.lt_succ_self _) (by omega) (hE.low (hb.mono (Nat.le_trans hB hszr))) (Nat.le_trans hB (Nat.le_trans hszr hb.size)))
     (fun w' hb=>Hih.out body _ w' B (by have:=Hm.out;omega) (by omega) (hBd.low (hb.mono (Nat.le_trans hB hszr))) (Nat.le_trans hB (Nat.le_trans hszr hb.size)))
     (fun w' hb=>Hih.out els _ w' B (by have:=Hm.out;omega) (by omega) (hEl.low (hb.mono (Nat.le_trans hB hszr))) (Nat.le_trans hB (Nat.le_trans hszr hb.size))))
    have Htk:Hid (xs.take (k+1)=xs.take k++[.mk op2 n2 name2 es body els]):=zh (by
     obtain ⟨h1,h2⟩:=List.getElem?_eq_some_iff.1 hat
     rw [List.take_succ_eq_append_getElem hkl,h2])
    clear hLr hat hE hBd hEl hz1 hz2 hz3;go_wp2_with fail
    refine HI.out.mono ?_;rintro e2 w2 ⟨⟨cx,rfl,hX2⟩,hb2⟩;obtain ⟨op,n,name,es,body,els,be,bb,bl,qe,qb,ql,hx,rfl⟩:=hX2.one;rw [hx] at Htk hX2;have HX2:=zh hX2;have Hb2:=zh hb2;have hs2:w.heap.size≤w2.heap.size:=Nat.le_trans hszr hb2.size;have hown2:=(zbu hown hb2 (zr _)).alloc (.cells #[.int .u8 op,.int .i64 n,.string (bstr name),.slice be es.length qe,.slice bb body.length qb,.slice bl els.length ql] 56);have Hbw:=zh ((HB.out.trans (hb2.mono hszr)).alloc hs2 (.cells #[.int .u8 op,.int .i64 n,.string (bstr name),.slice be es.length qe,.slice bb body.length qb,.slice bl els.length ql] 56));clear hX2 hb2 hx;go_wp2_with (at_builtin;refine zbj rfl (.tmp 17) (.tmp 19) 24 rfl hown2 zhj Tryz.underlying24 rfl (by decide) rfl 1 1 (by show Value.slice (some ⟨w2.heap.size+1,0,none⟩) 1 1=_;simp) rfl rfl (by unfold maxLen;omega) (by omega) Hbw.out.size ?_;intro v' w3 hown3 hg3 hb4 hat4)
    go_roundw
    case rel=>exact ⟨k+1,cs++[.int .u8 op,.int .i64 n,.string (bstr name),.slice be es.length qe,.slice bb body.length qb,.slice bl els.length ql],by omega,by go_num,hown3,zh (by rw [Htk.out];exact ziF hown HX.out Hb2.out HX2.out hszr ((Below.refl _ _).alloc (zr _) _) hg3 hat4),zh (Hbw.out.trans hb4)⟩
    case measure=>simp [intOf];omega
   ·have hki:¬ (k:Int) < (xs.length:Int):=by omega
    have hke:k=xs.length:=by omega
    have Hown:Hid (wr.ownsRow w.heap.size 56 6 u3 xs.length cs):=zh (by rw [← hke];exact hown);have HX2:Hid (StsC wr (fun g=>w.heap.size≤g∧u3.ownBlock≠some g) xs cs):=zh (by have:=HX.out;rw [hke,List.take_length] at this;exact this);clear hown HX;go_wp2_with fail
    go_ret;exact ⟨⟨_,cs,rfl,Hown.out,HX2.out⟩,HB.out⟩
theorem zlb (op n:Int) (name:List UInt8) (es:List Ex) (body els:List St) (va vb vc ua ub uc:Value) (w:World) (h1:∃ a cap,va=.slice a es.length cap) (h2:∃ a cap,vb=.slice a body.length cap) (h3:∃ a cap,vc=.slice a els.length cap) (h4:∃ a cap,ua=.slice a es.length cap) (h5:∃ a cap,ub=.slice a body.length cap) (h6:∃ a cap,uc=.slice a els.length cap)
  (hC:∀ w',Below w.heap.size w w'→Calls Tryz.prog 66 #[va,ua] w' (YesE w')) (hD:∀ w',Below w.heap.size w w'→Calls Tryz.prog 32 #[vb,ub] w' (YesE w')) (hE:∀ w',Below w.heap.size w w'→Calls Tryz.prog 32 #[vc,uc] w' (YesE w')) :
  Calls Tryz.prog 61 #[.agg #[.int .u8 op,.int .i64 n,.string (bstr name),va,vb,vc],.agg #[.int .u8 op,.int .i64 n,.string (bstr name),ua,ub,uc]] w (YesE w):=by
 obtain ⟨a1,p1,rfl⟩:=h1;obtain ⟨a2,p2,rfl⟩:=h2;obtain ⟨a3,p3,rfl⟩:=h3;obtain ⟨a4,p4,rfl⟩:=h4;obtain ⟨a5,p5,rfl⟩:=h5;obtain ⟨a6,p6,rfl⟩:=h6;have HC:=zh hC;have HD:=zh hD;have HE:=zh hE;clear hC hD hE;go_enter Tryz.func61,Tryz.ntmps61
 go_upto_region 1 with (fail)
 obtain ⟨W0,hW0,hb0,hR0,hT0,hsz⟩:=zbD w [.int .u8 op,.int .i64 n,.string (bstr name),.slice a1 es.length p1,.slice a2 body.length p2,.slice a3 els.length p3] [.int .u8 op,.int .i64 n,.string (bstr name),.slice a4 es.length p4,.slice a5 body.length p5,.slice a6 els.length p6] 56 56;rw [← hW0];clear hW0;have Hb0:=zh hb0;have HR0:=zh hR0;have HT0:=zh hT0;have x0:=hR0.cell (i:=0) rfl;have x1:=hR0.cell (i:=1) rfl;have x2:=hR0.cell (i:=2) rfl;have x3:=hR0.cell (i:=3) rfl;have y0:=hT0.cell (i:=0) rfl;have y1:=hT0.cell (i:=1) rfl;have y2:=hT0.cell (i:=2) rfl;have y3:=hT0.cell (i:=3) rfl;clear hb0 hR0 hT0;go_wp2_with fail
 refine (HC.out _ Hb0.out).mono ?_;rintro e1 w1 ⟨rfl,hb1⟩;have x4:=(HR0.out.below hb1 (zr _)).cell (i:=4) rfl;have y4:=(HT0.out.below hb1 (zr _)).cell (i:=4) rfl;have Hb1:=zh (Hb0.out.trans (hb1.mono Hb0.out.size));have HR1:=zh (HR0.out.below hb1 (zr _));have HT1:=zh (HT0.out.below hb1 (zr _));clear hb1;go_wp2_with fail
 refine (HD.out _ Hb1.out).mono ?_;rintro e2 w2 ⟨rfl,hb2⟩;have x5:=(HR1.out.below hb2 (zr _)).cell (i:=5) rfl;have y5:=(HT1.out.below hb2 (zr _)).cell (i:=5) rfl;have Hb2:=zh (Hb1.out.trans (hb2.mono Hb1.out.size));clear hb2;go_wp2_with fail
 refine (HE.out _ Hb2.out).mono ?_;rintro e3 w3 ⟨rfl,hb3⟩;have Hb3:=zh (Hb2.out.trans (hb3.mono Hb2.out.size));clear hb3;go_wp2_with fail
 go_ret;exact ⟨rfl,Hb3.out⟩
theorem zjX:∀ (m:Nat) (xs:List St) (va vb:Value) (w:World) (B:Nat),szSs xs < m→SsL w B xs va→SsL w B xs vb→B≤w.heap.size →
  Calls Tryz.prog 32 #[va,vb] w (YesE w):=by
 intro m
 induction m with
 | zero=>intro xs va vb w B h;omega
 | succ m ih =>
  intro xs va vb w B hm hL hM hB;obtain ⟨a,cap,rfl,hc1,hc2⟩:=hL.form;obtain ⟨a',cap',rfl,hc1',hc2'⟩:=hM.form;have HL:=zh hL;have HM:=zh hM;have Hm:=zh hm;have Hih:=zh ih;clear hm hL hM ih;go_enter Tryz.func32,Tryz.ntmps32
  go_wp2_with fail
  go_loopw [4,5,11,12,13,14,15,16,17,18,19,20,21,22,23,24,25,26] (fun _ t5 _ _ _ _ _ _ _ _ _ _ _ _ _ _ _ _ wr=>∃ (k:Nat),k≤xs.length∧t5=.int .i64 k∧Hid (Below w.heap.size w wr)) (fun _ t5 _ _ _ _ _ _ _ _ _ _ _ _ _ _ _ _ _=>xs.length - (intOf t5).toNat)
  case atStart=>exact ⟨0,by omega,by first | rfl | go_num,zh (Below.refl _ _)⟩
  case round =>
   obtain ⟨k,hk,rfl,HB⟩:=hrel;have hszr:=HB.out.size;by_cases hkl:k < xs.length
   ·have hki:(k:Int) < (xs.length:Int):=by omega
    have hcl:(xs.length:Int)≤9223372036854775807:=by omega
    have hLr:SsL wr B xs (.slice a xs.length cap):=HL.out.low (HB.out.mono hB);have hMr:SsL wr B xs (.slice a' xs.length cap'):=HM.out.low (HB.out.mono hB);obtain ⟨b,off,op2,n2,name2,es,body,els,ae,ce,ab,cb,al,cl,rfl,hbB,hbw,hat,c0,c1,c2,c3,c4,c5,hE,hBd,hEl⟩:=hLr.at hkl;obtain ⟨b',off',op3,n3,name3,es',body',els',ae',ce',ab',cb',al',cl',rfl,hbB',hbw',hat',d0,d1,d2,d3,d4,d5,hE',hBd',hEl'⟩:=hMr.at hkl;rw [hat] at hat';cases hat';obtain ⟨hz1,hz2,hz3⟩:=szS_mk hat
    have HI:Hid (∀ N,Calls Tryz.prog 61 _ (wr.drewN N) (YesE (wr.drewN N))):=zh (fun N=>by
     have hbN:∀ {w'},Below (wr.drewN N).heap.size (wr.drewN N) w'→Below wr.heap.size wr w':=fun hb=>Below.trans (b:=wr.drewN N) ⟨rfl,rfl,rfl,zr _,fun _ _=>rfl⟩ hb
     exact zlb op2 n2 name2 es body els _ _ _ _ _ _ (wr.drewN N) ⟨ae,ce,rfl⟩ ⟨ab,cb,rfl⟩ ⟨al,cl,rfl⟩ ⟨ae',ce',rfl⟩ ⟨ab',cb',rfl⟩ ⟨al',cl',rfl⟩
      (fun w' hb=>zes _ es _ _ w' B (Nat.lt_succ_self _) (hE.low ((hbN hb).mono (Nat.le_trans hB hszr))) (hE'.low ((hbN hb).mono (Nat.le_trans hB hszr))) (Nat.le_trans hB (Nat.le_trans hszr (hbN hb).size)))
      (fun w' hb=>Hih.out body _ _ w' B (by have:=Hm.out;omega) (hBd.low ((hbN hb).mono (Nat.le_trans hB hszr))) (hBd'.low ((hbN hb).mono (Nat.le_trans hB hszr))) (Nat.le_trans hB (Nat.le_trans hszr (hbN hb).size)))
      (fun w' hb=>Hih.out els _ _ w' B (by have:=Hm.out;omega) (hEl.low ((hbN hb).mono (Nat.le_trans hB hszr))) (hEl'.low ((hbN hb).mono (Nat.le_trans hB hszr))) (Nat.le_trans hB (Nat.le_trans hszr (hbN hb).size))))
    clear hLr hat hE hBd hEl hE' hBd' hEl' hz1 hz2 hz3 hMr;go_wp2_with fail
    refine zaW 8 (DrewOf wr) (by kernel_rfl) (by kernel_rfl) (DrewOf.start _) ?_;simp only [List.take_succ_cons,List.take_zero,List.drop_succ_cons,List.drop_zero]
    repeat
     try simp only [Act.put,zs1,zs3,zs2]
     apply stepsSeq.cons
     ·rintro w' ⟨nq,rfl⟩;simp only [Act.put,zs1,zs3,zs2];go_wp2_with (fail)
      first | exact ⟨rfl,nq,rfl⟩ | exact ⟨rfl,nq,(World.drewN_drewN _ _ _).symm⟩ | exact ⟨rfl,nq,by simp⟩
    try simp only [Act.put,zs1,zs3,zs2]
    refine stepsSeq.nil ?_;rintro w' ⟨nq,rfl⟩;go_wp2_with fail
    refine (HI.out _).mono ?_;rintro e2 w2 ⟨rfl,hb2⟩;have HB2:Hid (Below w.heap.size w w2):=zh ((Below.drewN HB.out nq).trans (hb2.mono hszr));clear hb2;go_wp2_with fail
    go_roundw
    case rel=>exact ⟨k+1,by omega,by go_num,HB2⟩
    case measure=>simp [intOf];omega
   ·have hki:¬ (k:Int) < (xs.length:Int):=by omega
    go_wp2_with fail
    go_ret;exact ⟨rfl,HB.out⟩

theorem right_step (d:Nat) (hd:d≤40) (ih:∀ (l:List St) (v:Value) (w:World) (B:Nat),okSs l→SsL w B l v→B≤w.heap.size→Calls Tryz.prog 75 #[v,.int .i64 d] w (zbe (zaJ d l) w))
  (l:List St) (v:Value) (w:World) (B:Nat) (hok:okSs l) (hL:SsL w B l v) (hB:B≤w.heap.size) :
  Calls Tryz.prog 75 #[v,.int .i64 ((d:Int)+1)] w (zbe (zaJ (d+1) l) w):=by
 obtain ⟨a,cap,rfl,hcc1,hcc2⟩:=hL.form;have Hih:=zh ih;have HL:=zh hL;have Hoks:=zh hok;obtain ⟨final,hfin⟩:∃ q,zaJ (d+1) l=q:=⟨_,rfl⟩;have HF:Hid (final=l.all (zh2 d)):=zh (by rw [← hfin,zfn]);rw [hfin];have hd1:((d:Int)+1 == 0)=false:=by rw [beq_eq_false_iff_ne];omega
 clear hok hL ih hfin;go_enter Tryz.func75,Tryz.ntmps75
 go_wp2_with fail
 go_loopw [4,5,6,7,8,9,10,11,12,13,14,15,16,17,18,19,20,21,22,23,24,25,26,27,28,29,30,31,32,33,34,35,36,37,38,39,40,41,42,43,44,45,46,47,48,49,50,51,52,53,54,55,56,57,58,59,60,61,62,63,64,65,66,67,68,69,70,71,72,73,74,75,76,77,78,79,80,81,82,83,84,85,86,87,88,89,90,91,92,93,94,95,96,97,98,99,100,101,102,103,104,105,106,107,108,109,110,111,112,113,114,115,116,117,118,119,120,121,122,123,124,125,126,127,128,129,130,131,132,133,134,135,136,137,138,139,140,141,142] (fun _ t5 _ _ _ _ _ _ _ _ _ _ _ _ _ _ _ _ _ _ _ _ _ _ _ _ _ _ _ _ _ _ _ _ _ _ _ _ _ _ _ _ _ _ _ _ _ _ _ _ _ _ _ _ _ _ _ _ _ _ _ _ _ _ _ _ _ _ _ _ _ _ _ _ _ _ _ _ _ _ _ _ _ _ _ _ _ _ _ _ _ _ _ _ _ _ _ _ _ _ _ _ _ _ _ _ _ _ _ _ _ _ _ _ _ _ _ _ _ _ _ _ _ _ _ _ _ _ _ _ _ _ _ _ _ _ _ _ _ wr=>∃ (k:Nat),k≤l.length∧t5=.int .i64 k∧Hid ((l.take k).all (zh2 d)=true)∧Hid (Below w.heap.size w wr)) (fun _ t5 _ _ _ _ _ _ _ _ _ _ _ _ _ _ _ _ _ _ _ _ _ _ _ _ _ _ _ _ _ _ _ _ _ _ _ _ _ _ _ _ _ _ _ _ _ _ _ _ _ _ _ _ _ _ _ _ _ _ _ _ _ _ _ _ _ _ _ _ _ _ _ _ _ _ _ _ _ _ _ _ _ _ _ _ _ _ _ _ _ _ _ _ _ _ _ _ _ _ _ _ _ _ _ _ _ _ _ _ _ _ _ _ _ _ _ _ _ _ _ _ _ _ _ _ _ _ _ _ _ _ _ _ _ _ _ _ _ _=>l.length - (intOf t5).toNat)
 case atStart=>exact ⟨0,by omega,by first | rfl | go_num,zh (by simp),zh (Below.refl _ _)⟩
 case round =>
  obtain ⟨wo,rfl⟩:∃ wo:World,wo=wr:=⟨_,rfl⟩;obtain ⟨k,hk,rfl,HA,HB⟩:=hrel;by_cases hkl:k < l.length
  ·have hki:(k:Int) < (l.length:Int):=by omega
   have hcl:(l.length:Int)≤9223372036854775807:=by omega
   have hszr:=HB.out.size;have hLr:SsL wo B l (.slice a l.length cap):=HL.out.low (HB.out.mono hB);obtain ⟨b,off,op,n,name,es,body,els,ae,ce,ab,cb,al,cl,rfl,hbB,hbw,hat,c0,c1,c2,c3,c4,c5,hE,hBd,hEl⟩:=hLr.at hkl;obtain ⟨-,-,-,hok1,hok2,hok3⟩:=znr Hoks.out hat;have Hal:=zh (all_take hat HA.out);have HR:Hid (zh2 d (.mk op n name es body els)=((zaJ d body && zaJ d els) && (zbA op n name es.length body.length els.length && es.all (zbd 40)))):=zh rfl
   generalize zh2 d (.mk op n name es body els)=q at *
   have HBd:Hid (∀ (w':World),Below wo.heap.size wo w'→Calls Tryz.prog 75 #[.slice ab body.length cb,.int .i64 d] w' _):=zh (fun w' hb=>Hih.out body _ w' B hok2 (hBd.low (hb.mono (Nat.le_trans hB hszr))) (Nat.le_trans hB (Nat.le_trans hszr hb.size)));have HEl:Hid (∀ (w':World),Below wo.heap.size wo w'→Calls Tryz.prog 75 #[.slice al els.length cl,.int .i64 d] w' _):=zh (fun w' hb=>Hih.out els _ w' B hok3 (hEl.low (hb.mono (Nat.le_trans hB hszr))) (Nat.le_trans hB (Nat.le_trans hszr hb.size)))
   generalize zaJ d body=qb at *
   generalize zaJ d els=ql at *
   have HE:Hid (∀ (w':World),Below wo.heap.size wo w'→EsL w' B es (.slice ae es.length ce)):=zh (fun w' hb=>hE.low (hb.mono (Nat.le_trans hB hszr)));have hfe:=hE.form;obtain ⟨_,_,_,hlce,hlce2⟩:=hfe;obtain ⟨_,_,_,hlcb,hlcb2⟩:=hBd.form;obtain ⟨_,_,_,hlcl,hlcl2⟩:=hEl.form;have HFi:Hid (∀ (op n:Int) (name:List UInt8) (args:List Ex) (v:Value) (w':World),okE (.mk op n name args)→EsL w' B args v→B≤w'.heap.size→Calls Tryz.prog 76 #[.agg #[.int .u8 op,.int .i64 n,.string (bstr name),v],.int .i64 40] w' _):=zh (fun op n name args v w' h1 h2 h3=>fine_any 40 (by omega) op n name args v w' B h1 h2 h3);have Hok1:=zh hok1;have HNm:Hid (∀ w:World,_):=zh (fun w:World=>zfU name w);obtain ⟨W1,hW1,hX1,hb1⟩:∃ W1,W1=wo.alloc (.cells #[.int .u8 op,.int .i64 n,.string (bstr name),.slice ae es.length ce,.slice ab body.length cb,.slice al els.length cl] 56)∧OwnV W1 wo.heap.size 56 [.int .u8 op,.int .i64 n,.string (bstr name),.slice ae es.length ce,.slice ab body.length cb,.slice al els.length cl]∧Below wo.heap.size wo W1:=⟨_,rfl,OwnV.new _ _ _,(Below.refl _ _).alloc (zr _) _⟩;have Hb1:=zh hb1;have HX1:=zh hX1;have HW1:=zh hW1;have x0:=hX1.cell (i:=0) rfl;have x4:=hX1.cell (i:=4) rfl;have HFq:Hid (q=false→final=false):=zh (fun h=>by rw [HF.out,Hal.out.2 h]);clear hLr hE hBd hEl hok1 hok2 hok3 hat hW1 hX1 hb1;by_cases hrg:1≤op∧op≤7
   ·obtain ⟨hr1,hr7⟩:=hrg
    cases qb with
    | false =>
     have HFz:Hid (final=false):=zh (HFq.out (by rw [HR.out,Bool.false_and,Bool.false_and]));go_upto_region 5 with (fail)
     rw [← HW1.out];go_wp2_with fail
     refine (HBd.out _ Hb1.out).mono ?_;rintro e2 w2 ⟨rfl,hb2⟩;have HX2:=zh (HX1.out.below hb2 (zr _));have Hb2:=zh (Hb1.out.trans (hb2.mono Hb1.out.size));have x5:=HX2.out.cell (i:=5) rfl;clear hb2 x0 x4;go_wp2_with fail
     go_ret
     exact ⟨retb (a:=false) HFz.out.symm,HB.out.trans ((Hb2.out).mono hszr)⟩
    | true =>
     cases ql with
     | false =>
      have HFz:Hid (final=false):=zh (HFq.out (by rw [HR.out,Bool.and_false,Bool.false_and]));go_upto_region 5 with (fail)
      rw [← HW1.out];go_wp2_with fail
      refine (HBd.out _ Hb1.out).mono ?_;rintro e2 w2 ⟨rfl,hb2⟩;have HX2:=zh (HX1.out.below hb2 (zr _));have Hb2:=zh (Hb1.out.trans (hb2.mono Hb1.out.size));have x5:=HX2.out.cell (i:=5) rfl;clear hb2 x0 x4;go_wp2_with fail
      refine (HEl.out _ Hb2.out).mono ?_;rintro e3 w3 ⟨rfl,hb3⟩;have HX3:=zh (HX2.out.below hb3 (zr _));have Hb3:=zh (Hb2.out.trans (hb3.mono Hb2.out.size));clear hb3 x5;go_wp2_with fail
      go_ret
      exact ⟨retb (a:=false) HFz.out.symm,HB.out.trans ((Hb3.out).mono hszr)⟩
     | true =>
      have HR2:Hid (q=(zbA op n name es.length body.length els.length && es.all (zbd 40))):=zh (by rw [HR.out,Bool.and_true,Bool.true_and]);clear HR;go_upto_region 5 with (fail)
      rw [← HW1.out];go_wp2_with fail
      refine (HBd.out _ Hb1.out).mono ?_;rintro e2 w2 ⟨rfl,hb2⟩;have HX2:=zh (HX1.out.below hb2 (zr _));have Hb2:=zh (Hb1.out.trans (hb2.mono Hb1.out.size));have x5:=HX2.out.cell (i:=5) rfl;clear hb2 x0 x4;go_wp2_with fail
      refine (HEl.out _ Hb2.out).mono ?_;rintro e3 w3 ⟨rfl,hb3⟩;have HX3:=zh (HX2.out.below hb3 (zr _));have Hb3:=zh (Hb2.out.trans (hb3.mono Hb2.out.size));clear hb3 x5;have x0:=HX3.out.cell (i:=0) rfl;have x1:=HX3.out.cell (i:=1) rfl;have x2:=HX3.out.cell (i:=2) rfl;have x3:=HX3.out.cell (i:=3) rfl;have x4:=HX3.out.cell (i:=4) rfl;have x5:=HX3.out.cell (i:=5) rfl;go_upto_region 7 with (fail)
      rcases (show (op≤2)∨op=3∨op=4∨op=5∨(6≤op) by omega) with hc | hc | hc | hc | hc
      ·have e3:(op == 3)=false:=by rw [beq_eq_false_iff_ne];omega
       have m3:(op != 3)=true:=by rw [bne_iff_ne];omega
       have m4:(op != 4)=true:=by rw [bne_iff_ne];omega
       have m5:(op != 5)=true:=by rw [bne_iff_ne];omega
       have g5:op≤5:=by omega
       have g2:op≤2:=by omega
       have Hc:=zh hc;have HT:Hid (zbA op n name es.length body.length els.length=(decide (es.length=1) && (zaP name && (decide (n=0) && (decide (body.length=0) && decide (els.length=0)))))):=zh (zee _ _ _ _ _ _ hr1 hc);clear hc;by_cases hl:es.length=1
       ·have hln:((es.length:Int) != 1)=false:=by rw [hl];rfl
        have Hl:=zh hl;clear hl;obtain ⟨qn,hqn⟩:∃ q,zaP name=q:=⟨_,rfl⟩;rw [hqn] at HNm HT;clear hqn
        cases qn with
        | true =>
         by_cases hz:n=0
         ·have hz1:(n != 0)=false:=by simp [hz]
          have Hz:=zh hz;clear hz;by_cases hbd:body.length=0
          ·have hbd1:¬ (body.length:Int) > 0:=by omega
           have hbd2:¬ 0 < body.length:=by omega
           have Hbd:=zh hbd;clear hbd;by_cases hel:els.length=0
           ·have hel1:¬ (els.length:Int) > 0:=by omega
            have hel2:¬ 0 < els.length:=by omega
            have Hel:=zh hel;clear hel;have Hh:Hid (zbA op n name es.length body.length els.length=true):=zh (by rw [HT.out,decide_eq_true Hl.out,Bool.true_and,Bool.true_and,decide_eq_true Hz.out,Bool.true_and,decide_eq_true Hbd.out,Bool.true_and,decide_eq_true Hel.out]);clear HT;go_upto_region 12 with (fail)
            simp only [List.append_eq,List.cons_append,List.nil_append];go_upto_region 14 with (go_at_call 22;refine (HNm.out _).mono ?_;rintro e4 w4 ⟨rfl,hb4⟩;have Hb4:=zh hb4;clear hb4 x0 x1 x2 x3 x4 x5;have x0:=(HX3.out.below Hb4.out (zr _)).cell (i:=0) rfl;have x1:=(HX3.out.below Hb4.out (zr _)).cell (i:=1) rfl;have x2:=(HX3.out.below Hb4.out (zr _)).cell (i:=2) rfl;have x3:=(HX3.out.below Hb4.out (zr _)).cell (i:=3) rfl;have x4:=(HX3.out.below Hb4.out (zr _)).cell (i:=4) rfl;have x5:=(HX3.out.below Hb4.out (zr _)).cell (i:=5) rfl)
            go_wp2_with fail
            have HXw:Hid (OwnV w4 wo.heap.size 56 [.int .u8 op,.int .i64 n,.string (bstr name),.slice ae es.length ce,.slice ab body.length cb,.slice al els.length cl]):=zh (HX3.out.below Hb4.out (zr _));have Hbw:Hid (Below wo.heap.size wo w4):=zh (Hb3.out.trans (Hb4.out.mono Hb3.out.size));go_loopw [4,8,131,132,133,134,135,136,137,138,139,140,141,142] (fun _ t8 _ _ _ _ _ _ _ _ _ _ _ _ wr=>∃ (j:Nat),j≤es.length∧t8=.int .i64 j∧Hid ((es.take j).all (zbd 40)=true)∧Hid (Below w4.heap.size w4 wr)) (fun _ t8 _ _ _ _ _ _ _ _ _ _ _ _ _=>es.length - (intOf t8).toNat)
            case atStart=>exact ⟨0,by omega,by first | rfl | go_num,zh (by simp),zh (Below.refl _ _)⟩
            case round =>
             obtain ⟨j,hj,rfl,HA2,HB2⟩:=hrel;have Hbq:Hid (Below wo.heap.size wo wr):=zh (Hbw.out.trans (HB2.out.mono Hbw.out.size));have hx3:=(HXw.out.below HB2.out (zr _)).cell (i:=3) rfl;by_cases hjl:j < es.length
             ·have hji:(j:Int) < 1:=by have:=Hl.out;omega
              have hji2:(j:Int) < (es.length:Int):=by omega
              have hcl2:(es.length:Int)≤9223372036854775807:=by omega
              obtain ⟨be,oe,op2,n2,name2,args2,aa,ac,rfl,hbB2,hbw2,hat2,d0,d1,d2,d3,hL2⟩:=(HE.out _ Hbq.out).at hjl;have HI:=zh (HFi.out op2 n2 name2 args2 _ wr (zgR Hok1.out hat2) hL2 (Nat.le_trans hB (Nat.le_trans hszr Hbq.out.size)));have Hal2:=zh (all_take hat2 HA2.out)
              generalize zbd 40 (.mk op2 n2 name2 args2)=qf at *
              clear hat2 hL2
              cases qf with
              | false =>
               have HFz:Hid (final=false):=zh (HFq.out (by rw [HR2.out,Hal2.out.2 rfl,Bool.and_false]));clear Hal2;go_wp2_with fail
               refine HI.out.mono ?_;rintro e6 w6 ⟨rfl,hb6⟩;have Hb6:=zh (HB.out.trans ((Hbq.out.trans (hb6.mono Hbq.out.size)).mono hszr));clear hb6;go_wp2_with fail
               go_ret
               exact ⟨retb (a:=false) HFz.out.symm,Hb6.out⟩
              | true =>
               have HA3:=zh (Hal2.out.1 rfl);clear Hal2;go_wp2_with fail
               refine HI.out.mono ?_;rintro e6 w6 ⟨rfl,hb6⟩;have Hb6:=zh (HB2.out.trans (hb6.mono HB2.out.size));clear hb6;go_wp2_with fail
               go_roundw
               case rel=>exact ⟨j+1,by omega,by go_num,HA3,Hb6⟩
               case measure=>simp [intOf];omega
             ·have hji:¬ (j:Int) < 1:=by have:=Hl.out;omega
              have hje:j=es.length:=by omega
              have Hq:Hid (q=true):=zh (by have:=HA2.out;rw [hje,List.take_length] at this;rw [HR2.out,this,Bool.and_true];exact Hh.out);have HA3:=zh (Hal.out.1 Hq.out);have HB3:=zh (HB.out.trans (Hbq.out.mono hszr));clear Hq HR2 Hal HFq;go_wp2_with fail
              go_roundw
              case rel=>exact ⟨k+1,by omega,by go_num,HA3,HB3⟩
              case measure=>simp [intOf];omega
           ·have hel1:(els.length:Int) > 0:=by omega
            have hel2:0 < els.length:=by omega
            have Hel:=zh hel;clear hel;have HFz:Hid (final=false):=zh (HFq.out (by rw [HR2.out,HT.out,decide_eq_true Hl.out,Bool.true_and,Bool.true_and,decide_eq_true Hz.out,Bool.true_and,decide_eq_true Hbd.out,Bool.true_and,decide_eq_false Hel.out,Bool.false_and]));clear HR2 HT;go_upto_region 12 with (fail)
            simp only [List.append_eq,List.cons_append,List.nil_append];go_wp2_with (go_at_call 22;refine (HNm.out _).mono ?_;rintro e4 w4 ⟨rfl,hb4⟩;have Hb4:=zh hb4;clear hb4 x0 x1 x2 x3 x4 x5;have x0:=(HX3.out.below Hb4.out (zr _)).cell (i:=0) rfl;have x1:=(HX3.out.below Hb4.out (zr _)).cell (i:=1) rfl;have x2:=(HX3.out.below Hb4.out (zr _)).cell (i:=2) rfl;have x3:=(HX3.out.below Hb4.out (zr _)).cell (i:=3) rfl;have x4:=(HX3.out.below Hb4.out (zr _)).cell (i:=4) rfl;have x5:=(HX3.out.below Hb4.out (zr _)).cell (i:=5) rfl)
            go_ret;exact ⟨retb (a:=false) HFz.out.symm,HB.out.trans ((Hb3.out.trans (Hb4.out.mono Hb3.out.size)).mono hszr)⟩
          ·have hbd1:(body.length:Int) > 0:=by omega
           have hbd2:0 < body.length:=by omega
           have Hbd:=zh hbd;clear hbd;have HFz:Hid (final=false):=zh (HFq.out (by rw [HR2.out,HT.out,decide_eq_true Hl.out,Bool.true_and,Bool.true_and,decide_eq_true Hz.out,Bool.true_and,decide_eq_false Hbd.out,Bool.false_and,Bool.false_and]));clear HR2 HT;go_upto_region 12 with (fail)
           simp only [List.append_eq,List.cons_append,List.nil_append];go_wp2_with (go_at_call 22;refine (HNm.out _).mono ?_;rintro e4 w4 ⟨rfl,hb4⟩;have Hb4:=zh hb4;clear hb4 x0 x1 x2 x3 x4 x5;have x0:=(HX3.out.below Hb4.out (zr _)).cell (i:=0) rfl;have x1:=(HX3.out.below Hb4.out (zr _)).cell (i:=1) rfl;have x2:=(HX3.out.below Hb4.out (zr _)).cell (i:=2) rfl;have x3:=(HX3.out.below Hb4.out (zr _)).cell (i:=3) rfl;have x4:=(HX3.out.below Hb4.out (zr _)).cell (i:=4) rfl;have x5:=(HX3.out.below Hb4.out (zr _)).cell (i:=5) rfl)
           go_ret;exact ⟨retb (a:=false) HFz.out.symm,HB.out.trans ((Hb3.out.trans (Hb4.out.mono Hb3.out.size)).mono hszr)⟩
         ·have hz1:(n != 0)=true:=by simp [hz]
          have Hz:=zh hz;clear hz;have HFz:Hid (final=false):=zh (HFq.out (by rw [HR2.out,HT.out,decide_eq_true Hl.out,Bool.true_and,Bool.true_and,decide_eq_false Hz.out,Bool.false_and,Bool.false_and]));clear HR2 HT;go_upto_region 12 with (fail)
          simp only [List.append_eq,List.cons_append,List.nil_append];go_wp2_with (go_at_call 22;refine (HNm.out _).mono ?_;rintro e4 w4 ⟨rfl,hb4⟩;have Hb4:=zh hb4;clear hb4 x0 x1 x2 x3 x4 x5;have x0:=(HX3.out.below Hb4.out (zr _)).cell (i:=0) rfl;have x1:=(HX3.out.below Hb4.out (zr _)).cell (i:=1) rfl;have x2:=(HX3.out.below Hb4.out (zr _)).cell (i:=2) rfl;have x3:=(HX3.out.below Hb4.out (zr _)).cell (i:=3) rfl;have x4:=(HX3.out.below Hb4.out (zr _)).cell (i:=4) rfl;have x5:=(HX3.out.below Hb4.out (zr _)).cell (i:=5) rfl)
          go_ret
          exact ⟨retb (a:=false) HFz.out.symm,HB.out.trans ((Hb3.out.trans (Hb4.out.mono Hb3.out.size)).mono hszr)⟩
        | false =>
         have HFz:Hid (final=false):=zh (HFq.out (by rw [HR2.out,HT.out,decide_eq_true Hl.out,Bool.true_and,Bool.false_and,Bool.false_and]));clear HR2 HT;go_upto_region 12 with (fail)
         simp only [List.append_eq,List.cons_append,List.nil_append];go_wp2_with (go_at_call 22;refine (HNm.out _).mono ?_;rintro e4 w4 ⟨rfl,hb4⟩;have Hb4:=zh hb4;clear hb4 x0 x1 x2 x3 x4 x5;have x0:=(HX3.out.below Hb4.out (zr _)).cell (i:=0) rfl;have x1:=(HX3.out.below Hb4.out (zr _)).cell (i:=1) rfl;have x2:=(HX3.out.below Hb4.out (zr _)).cell (i:=2) rfl;have x3:=(HX3.out.below Hb4.out (zr _)).cell (i:=3) rfl;have x4:=(HX3.out.below Hb4.out (zr _)).cell (i:=4) rfl;have x5:=(HX3.out.below Hb4.out (zr _)).cell (i:=5) rfl)
         go_ret;exact ⟨retb (a:=false) HFz.out.symm,HB.out.trans ((Hb3.out.trans (Hb4.out.mono Hb3.out.size)).mono hszr)⟩
       ·have hln:((es.length:Int) != 1)=true:=by rw [bne_iff_ne];omega
        have Hl:=zh hl;clear hl;have HFz:Hid (final=false):=zh (HFq.out (by rw [HR2.out,HT.out,decide_eq_false Hl.out,Bool.false_and,Bool.false_and]));clear HR2 HT;go_upto_region 12 with (fail)
        simp only [List.append_eq,List.cons_append,List.nil_append];go_wp2_with (fail)
        go_ret;exact ⟨retb (a:=false) HFz.out.symm,HB.out.trans ((Hb3.out).mono hszr)⟩
      ·have e3:(op == 3)=true:=by rw [beq_iff_eq];omega
       have m3:(op != 3)=false:=by rw [bne_eq_false_iff_eq];omega
       have m4:(op != 4)=true:=by rw [bne_iff_ne];omega
       have m5:(op != 5)=true:=by rw [bne_iff_ne];omega
       have g5:op≤5:=by omega
       have g2:2 < op:=by omega
       have Hc:=zh hc;have HT:Hid (zbA op n name es.length body.length els.length=(decide (es.length=2) && (decide (name=[]) && (decide (1≤n∧n≤10) && (decide (body.length=0) && decide (els.length=0)))))):=zh (zfo _ _ _ _ _ _ hc);clear hc;by_cases hl:es.length=2
       ·have hln:((es.length:Int) != 2)=false:=by rw [hl];rfl
        have Hl:=zh hl;clear hl;by_cases hn:name=[]
        ·have hs:(bstr name).toList=[]:=str_nil.2 hn;have Hn:=zh hn;clear hn;by_cases hz:1≤n∧n≤10
         ·obtain ⟨hz1,hz2⟩:=hz;have Hz:Hid (1≤n∧n≤10):=zh ⟨hz1,hz2⟩;by_cases hbd:body.length=0
          ·have hbd1:¬ (body.length:Int) > 0:=by omega
           have hbd2:¬ 0 < body.length:=by omega
           have Hbd:=zh hbd;clear hbd;by_cases hel:els.length=0
           ·have hel1:¬ (els.length:Int) > 0:=by omega
            have hel2:¬ 0 < els.length:=by omega
            have Hel:=zh hel;clear hel;have Hh:Hid (zbA op n name es.length body.length els.length=true):=zh (by rw [HT.out,decide_eq_true Hl.out,Bool.true_and,decide_eq_true Hn.out,Bool.true_and,decide_eq_true Hz.out,Bool.true_and,decide_eq_true Hbd.out,Bool.true_and,decide_eq_true Hel.out]);clear HT;go_upto_region 12 with (fail)
            simp only [List.append_eq,List.cons_append,List.nil_append];go_upto_region 14 with (fail)
            go_wp2_with fail
            have HXw:Hid (OwnV w3 wo.heap.size 56 [.int .u8 op,.int .i64 n,.string (bstr name),.slice ae es.length ce,.slice ab body.length cb,.slice al els.length cl]):=zh HX3.out;have Hbw:Hid (Below wo.heap.size wo w3):=zh (Hb3.out);go_loopw [4,8,131,132,133,134,135,136,137,138,139,140,141,142] (fun _ t8 _ _ _ _ _ _ _ _ _ _ _ _ wr=>∃ (j:Nat),j≤es.length∧t8=.int .i64 j∧Hid ((es.take j).all (zbd 40)=true)∧Hid (Below w3.heap.size w3 wr)) (fun _ t8 _ _ _ _ _ _ _ _ _ _ _ _ _=>es.length - (intOf t8).toNat)
            case atStart=>exact ⟨0,by omega,by first | rfl | go_num,zh (by simp),zh (Below.refl _ _)⟩
            case round =>
             obtain ⟨j,hj,rfl,HA2,HB2⟩:=hrel;have Hbq:Hid (Below wo.heap.size wo wr):=zh (Hbw.out.trans (HB2.out.mono Hbw.out.size));have hx3:=(HXw.out.below HB2.out (zr _)).cell (i:=3) rfl;by_cases hjl:j < es.length
             ·have hji:(j:Int) < 2:=by have:=Hl.out;omega
              have hji2:(j:Int) < (es.length:Int):=by omega
              have hcl2:(es.length:Int)≤9223372036854775807:=by omega
              obtain ⟨be,oe,op2,n2,name2,args2,aa,ac,rfl,hbB2,hbw2,hat2,d0,d1,d2,d3,hL2⟩:=(HE.out _ Hbq.out).at hjl;have HI:=zh (HFi.out op2 n2 name2 args2 _ wr (zgR Hok1.out hat2) hL2 (Nat.le_trans hB (Nat.le_trans hszr Hbq.out.size)));have Hal2:=zh (all_take hat2 HA2.out)
              generalize zbd 40 (.mk op2 n2 name2 args2)=qf at *
              clear hat2 hL2
              cases qf with
              | false =>
               have HFz:Hid (final=false):=zh (HFq.out (by rw [HR2.out,Hal2.out.2 rfl,Bool.and_false]));clear Hal2;go_wp2_with fail
               refine HI.out.mono ?_;rintro e6 w6 ⟨rfl,hb6⟩;have Hb6:=zh (HB.out.trans ((Hbq.out.trans (hb6.mono Hbq.out.size)).mono hszr));clear hb6;go_wp2_with fail
               go_ret
               exact ⟨retb (a:=false) HFz.out.symm,Hb6.out⟩
              | true =>
               have HA3:=zh (Hal2.out.1 rfl);clear Hal2;go_wp2_with fail
               refine HI.out.mono ?_;rintro e6 w6 ⟨rfl,hb6⟩;have Hb6:=zh (HB2.out.trans (hb6.mono HB2.out.size));clear hb6;go_wp2_with fail
               go_roundw
               case rel=>exact ⟨j+1,by omega,by go_num,HA3,Hb6⟩
               case measure=>simp [intOf];omega
             ·have hji:¬ (j:Int) < 2:=by have:=Hl.out;omega
              have hje:j=es.length:=by omega
              have Hq:Hid (q=true):=zh (by have:=HA2.out;rw [hje,List.take_length] at this;rw [HR2.out,this,Bool.and_true];exact Hh.out);have HA3:=zh (Hal.out.1 Hq.out);have HB3:=zh (HB.out.trans (Hbq.out.mono hszr));clear Hq HR2 Hal HFq;go_wp2_with fail
              go_roundw
              case rel=>exact ⟨k+1,by omega,by go_num,HA3,HB3⟩
              case measure=>simp [intOf];omega
           ·have hel1:(els.length:Int) > 0:=by omega
            have hel2:0 < els.length:=by omega
            have Hel:=zh hel;clear hel;have HFz:Hid (final=false):=zh (HFq.out (by rw [HR2.out,HT.out,decide_eq_true Hl.out,Bool.true_and,decide_eq_true Hn.out,Bool.true_and,decide_eq_true Hz.out,Bool.true_and,decide_eq_true Hbd.out,Bool.true_and,decide_eq_false Hel.out,Bool.false_and]));clear HR2 HT;go_upto_region 12 with (fail)
            simp only [List.append_eq,List.cons_append,List.nil_append];go_wp2_with (fail)
            go_ret;exact ⟨retb (a:=false) HFz.out.symm,HB.out.trans ((Hb3.out).mono hszr)⟩
          ·have hbd1:(body.length:Int) > 0:=by omega
           have hbd2:0 < body.length:=by omega
           have Hbd:=zh hbd;clear hbd;have HFz:Hid (final=false):=zh (HFq.out (by rw [HR2.out,HT.out,decide_eq_true Hl.out,Bool.true_and,decide_eq_true Hn.out,Bool.true_and,decide_eq_true Hz.out,Bool.true_and,decide_eq_false Hbd.out,Bool.false_and,Bool.false_and]));clear HR2 HT;go_upto_region 12 with (fail)
           simp only [List.append_eq,List.cons_append,List.nil_append];go_wp2_with (fail)
           go_ret;exact ⟨retb (a:=false) HFz.out.symm,HB.out.trans ((Hb3.out).mono hszr)⟩
         ·have HFz:Hid (final=false):=zh (HFq.out (by rw [HR2.out,HT.out,decide_eq_true Hl.out,Bool.true_and,decide_eq_true Hn.out,Bool.true_and,decide_eq_false hz,Bool.false_and,Bool.false_and]));clear HR2 HT;by_cases hz1:n < 1
          ·clear hz;go_upto_region 12 with (fail)
           simp only [List.append_eq,List.cons_append,List.nil_append];go_wp2_with (fail)
           go_ret;exact ⟨retb (a:=false) HFz.out.symm,HB.out.trans ((Hb3.out).mono hszr)⟩
          ·have hz2:10 < n:=by omega
           clear hz hz1;go_upto_region 12 with (fail)
           simp only [List.append_eq,List.cons_append,List.nil_append];go_wp2_with (fail)
           go_ret;exact ⟨retb (a:=false) HFz.out.symm,HB.out.trans ((Hb3.out).mono hszr)⟩
        ·have hs:¬ (bstr name).toList=[]:=fun h=>hn (str_nil.1 h)
         have Hn:=zh hn;clear hn;have HFz:Hid (final=false):=zh (HFq.out (by rw [HR2.out,HT.out,decide_eq_true Hl.out,Bool.true_and,decide_eq_false Hn.out,Bool.false_and,Bool.false_and]));clear HR2 HT;go_upto_region 12 with (fail)
         simp only [List.append_eq,List.cons_append,List.nil_append];go_wp2_with (fail)
         go_ret;exact ⟨retb (a:=false) HFz.out.symm,HB.out.trans ((Hb3.out).mono hszr)⟩
       ·have hln:((es.length:Int) != 2)=true:=by rw [bne_iff_ne];omega
        have Hl:=zh hl;clear hl;have HFz:Hid (final=false):=zh (HFq.out (by rw [HR2.out,HT.out,decide_eq_false Hl.out,Bool.false_and,Bool.false_and]));clear HR2 HT;go_upto_region 12 with (fail)
        simp only [List.append_eq,List.cons_append,List.nil_append];go_wp2_with (fail)
        go_ret;exact ⟨retb (a:=false) HFz.out.symm,HB.out.trans ((Hb3.out).mono hszr)⟩
      ·have e3:(op == 3)=false:=by rw [beq_eq_false_iff_ne];omega
       have m3:(op != 3)=true:=by rw [bne_iff_ne];omega
       have m4:(op != 4)=false:=by rw [bne_eq_false_iff_eq];omega
       have m5:(op != 5)=true:=by rw [bne_iff_ne];omega
       have g5:op≤5:=by omega
       have g2:2 < op:=by omega
       have Hc:=zh hc;have HT:Hid (zbA op n name es.length body.length els.length=(decide (es.length=1) && (decide (name=[]) && (decide (n=0) && (true))))):=zh (zfp _ _ _ _ _ _ hc);clear hc;by_cases hl:es.length=1
       ·have hln:((es.length:Int) != 1)=false:=by rw [hl];rfl
        have Hl:=zh hl;clear hl;by_cases hn:name=[]
        ·have hs:(bstr name).toList=[]:=str_nil.2 hn;have Hn:=zh hn;clear hn;by_cases hz:n=0
         ·have hz1:(n != 0)=false:=by simp [hz]
          have Hz:=zh hz;clear hz;by_cases hbd:0 < body.length
          ·have hbd1:(body.length:Int) > 0:=by omega
           have hbd2:0 < body.length:=by omega
           clear hbd;by_cases hel:0 < els.length
           ·have hel1:(els.length:Int) > 0:=by omega
            have hel2:0 < els.length:=by omega
            clear hel;have Hh:Hid (zbA op n name es.length body.length els.length=true):=zh (by rw [HT.out,decide_eq_true Hl.out,Bool.true_and,decide_eq_true Hn.out,Bool.true_and,decide_eq_true Hz.out,Bool.true_and]);clear HT;go_upto_region 12 with (fail)
            simp only [List.append_eq,List.cons_append,List.nil_append];go_upto_region 14 with (fail)
            go_wp2_with fail
            have HXw:Hid (OwnV w3 wo.heap.size 56 [.int .u8 op,.int .i64 n,.string (bstr name),.slice ae es.length ce,.slice ab body.length cb,.slice al els.length cl]):=zh HX3.out;have Hbw:Hid (Below wo.heap.size wo w3):=zh (Hb3.out);go_loopw [4,8,131,132,133,134,135,136,137,138,139,140,141,142] (fun _ t8 _ _ _ _ _ _ _ _ _ _ _ _ wr=>∃ (j:Nat),j≤es.length∧t8=.int .i64 j∧Hid ((es.take j).all (zbd 40)=true)∧Hid (Below w3.heap.size w3 wr)) (fun _ t8 _ _ _ _ _ _ _ _ _ _ _ _ _=>es.length - (intOf t8).toNat)
            case atStart=>exact ⟨0,by omega,by first | rfl | go_num,zh (by simp),zh (Below.refl _ _)⟩
            case round =>
             obtain ⟨j,hj,rfl,HA2,HB2⟩:=hrel;have Hbq:Hid (Below wo.heap.size wo wr):=zh (Hbw.out.trans (HB2.out.mono Hbw.out.size));have hx3:=(HXw.out.below HB2.out (zr _)).cell (i:=3) rfl;by_cases hjl:j < es.length
             ·have hji:(j:Int) < 1:=by have:=Hl.out;omega
              have hji2:(j:Int) < (es.length:Int):=by omega
              have hcl2:(es.length:Int)≤9223372036854775807:=by omega
              obtain ⟨be,oe,op2,n2,name2,args2,aa,ac,rfl,hbB2,hbw2,hat2,d0,d1,d2,d3,hL2⟩:=(HE.out _ Hbq.out).at hjl;have HI:=zh (HFi.out op2 n2 name2 args2 _ wr (zgR Hok1.out hat2) hL2 (Nat.le_trans hB (Nat.le_trans hszr Hbq.out.size)));have Hal2:=zh (all_take hat2 HA2.out)
              generalize zbd 40 (.mk op2 n2 name2 args2)=qf at *
              clear hat2 hL2
              cases qf with
              | false =>
               have HFz:Hid (final=false):=zh (HFq.out (by rw [HR2.out,Hal2.out.2 rfl,Bool.and_false]));clear Hal2;go_wp2_with fail
               refine HI.out.mono ?_;rintro e6 w6 ⟨rfl,hb6⟩;have Hb6:=zh (HB.out.trans ((Hbq.out.trans (hb6.mono Hbq.out.size)).mono hszr));clear hb6;go_wp2_with fail
               go_ret
               exact ⟨retb (a:=false) HFz.out.symm,Hb6.out⟩
              | true =>
               have HA3:=zh (Hal2.out.1 rfl);clear Hal2;go_wp2_with fail
               refine HI.out.mono ?_;rintro e6 w6 ⟨rfl,hb6⟩;have Hb6:=zh (HB2.out.trans (hb6.mono HB2.out.size));clear hb6;go_wp2_with fail
               go_roundw
               case rel=>exact ⟨j+1,by omega,by go_num,HA3,Hb6⟩
               case measure=>simp [intOf];omega
             ·have hji:¬ (j:Int) < 1:=by have:=Hl.out;omega
              have hje:j=es.length:=by omega
              have Hq:Hid (q=true):=zh (by have:=HA2.out;rw [hje,List.take_length] at this;rw [HR2.out,this,Bool.and_true];exact Hh.out);have HA3:=zh (Hal.out.1 Hq.out);have HB3:=zh (HB.out.trans (Hbq.out.mono hszr));clear Hq HR2 Hal HFq;go_wp2_with fail
              go_roundw
              case rel=>exact ⟨k+1,by omega,by go_num,HA3,HB3⟩
              case measure=>simp [intOf];omega
           ·have hel1:¬ (els.length:Int) > 0:=by omega
            have hel2:¬ 0 < els.length:=by omega
            clear hel;have Hh:Hid (zbA op n name es.length body.length els.length=true):=zh (by rw [HT.out,decide_eq_true Hl.out,Bool.true_and,decide_eq_true Hn.out,Bool.true_and,decide_eq_true Hz.out,Bool.true_and]);clear HT;go_upto_region 12 with (fail)
            simp only [List.append_eq,List.cons_append,List.nil_append];go_upto_region 14 with (fail)
            go_wp2_with fail
            have HXw:Hid (OwnV w3 wo.heap.size 56 [.int .u8 op,.int .i64 n,.string (bstr name),.slice ae es.length ce,.slice ab body.length cb,.slice al els.length cl]):=zh HX3.out;have Hbw:Hid (Below wo.heap.size wo w3):=zh (Hb3.out);go_loopw [4,8,131,132,133,134,135,136,137,138,139,140,141,142] (fun _ t8 _ _ _ _ _ _ _ _ _ _ _ _ wr=>∃ (j:Nat),j≤es.length∧t8=.int .i64 j∧Hid ((es.take j).all (zbd 40)=true)∧Hid (Below w3.heap.size w3 wr)) (fun _ t8 _ _ _ _ _ _ _ _ _ _ _ _ _=>es.length - (intOf t8).toNat)
            case atStart=>exact ⟨0,by omega,by first | rfl | go_num,zh (by simp),zh (Below.refl _ _)⟩
            case round =>
             obtain ⟨j,hj,rfl,HA2,HB2⟩:=hrel;have Hbq:Hid (Below wo.heap.size wo wr):=zh (Hbw.out.trans (HB2.out.mono Hbw.out.size));have hx3:=(HXw.out.below HB2.out (zr _)).cell (i:=3) rfl;by_cases hjl:j < es.length
             ·have hji:(j:Int) < 1:=by have:=Hl.out;omega
              have hji2:(j:Int) < (es.length:Int):=by omega
              have hcl2:(es.length:Int)≤9223372036854775807:=by omega
              obtain ⟨be,oe,op2,n2,name2,args2,aa,ac,rfl,hbB2,hbw2,hat2,d0,d1,d2,d3,hL2⟩:=(HE.out _ Hbq.out).at hjl;have HI:=zh (HFi.out op2 n2 name2 args2 _ wr (zgR Hok1.out hat2) hL2 (Nat.le_trans hB (Nat.le_trans hszr Hbq.out.size)));have Hal2:=zh (all_take hat2 HA2.out)
              generalize zbd 40 (.mk op2 n2 name2 args2)=qf at *
              clear hat2 hL2
              cases qf with
              | false =>
               have HFz:Hid (final=false):=zh (HFq.out (by rw [HR2.out,Hal2.out.2 rfl,Bool.and_false]));clear Hal2;go_wp2_with fail
               refine HI.out.mono ?_;rintro e6 w6 ⟨rfl,hb6⟩;have Hb6:=zh (HB.out.trans ((Hbq.out.trans (hb6.mono Hbq.out.size)).mono hszr));clear hb6;go_wp2_with fail
               go_ret
               exact ⟨retb (a:=false) HFz.out.symm,Hb6.out⟩
              | true =>
               have HA3:=zh (Hal2.out.1 rfl);clear Hal2;go_wp2_with fail
               refine HI.out.mono ?_;rintro e6 w6 ⟨rfl,hb6⟩;have Hb6:=zh (HB2.out.trans (hb6.mono HB2.out.size));clear hb6;go_wp2_with fail
               go_roundw
               case rel=>exact ⟨j+1,by omega,by go_num,HA3,Hb6⟩
               case measure=>simp [intOf];omega
             ·have hji:¬ (j:Int) < 1:=by have:=Hl.out;omega
              have hje:j=es.length:=by omega
              have Hq:Hid (q=true):=zh (by have:=HA2.out;rw [hje,List.take_length] at this;rw [HR2.out,this,Bool.and_true];exact Hh.out);have HA3:=zh (Hal.out.1 Hq.out);have HB3:=zh (HB.out.trans (Hbq.out.mono hszr));clear Hq HR2 Hal HFq;go_wp2_with fail
              go_roundw
              case rel=>exact ⟨k+1,by omega,by go_num,HA3,HB3⟩
              case measure=>simp [intOf];omega
          ·have hbd1:¬ (body.length:Int) > 0:=by omega
           have hbd2:¬ 0 < body.length:=by omega
           clear hbd;by_cases hel:0 < els.length
           ·have hel1:(els.length:Int) > 0:=by omega
            have hel2:0 < els.length:=by omega
            clear hel;have Hh:Hid (zbA op n name es.length body.length els.length=true):=zh (by rw [HT.out,decide_eq_true Hl.out,Bool.true_and,decide_eq_true Hn.out,Bool.true_and,decide_eq_true Hz.out,Bool.true_and]);clear HT;go_upto_region 12 with (fail)
            simp only [List.append_eq,List.cons_append,List.nil_append];go_upto_region 14 with (fail)
            go_wp2_with fail
            have HXw:Hid (OwnV w3 wo.heap.size 56 [.int .u8 op,.int .i64 n,.string (bstr name),.slice ae es.length ce,.slice ab body.length cb,.slice al els.length cl]):=zh HX3.out;have Hbw:Hid (Below wo.heap.size wo w3):=zh (Hb3.out);go_loopw [4,8,131,132,133,134,135,136,137,138,139,140,141,142] (fun _ t8 _ _ _ _ _ _ _ _ _ _ _ _ wr=>∃ (j:Nat),j≤es.length∧t8=.int .i64 j∧Hid ((es.take j).all (zbd 40)=true)∧Hid (Below w3.heap.size w3 wr)) (fun _ t8 _ _ _ _ _ _ _ _ _ _ _ _ _=>es.length - (intOf t8).toNat)
            case atStart=>exact ⟨0,by omega,by first | rfl | go_num,zh (by simp),zh (Below.refl _ _)⟩
            case round =>
             obtain ⟨j,hj,rfl,HA2,HB2⟩:=hrel;have Hbq:Hid (Below wo.heap.size wo wr):=zh (Hbw.out.trans (HB2.out.mono Hbw.out.size));have hx3:=(HXw.out.below HB2.out (zr _)).cell (i:=3) rfl;by_cases hjl:j < es.length
             ·have hji:(j:Int) < 1:=by have:=Hl.out;omega
              have hji2:(j:Int) < (es.length:Int):=by omega
              have hcl2:(es.length:Int)≤9223372036854775807:=by omega
              obtain ⟨be,oe,op2,n2,name2,args2,aa,ac,rfl,hbB2,hbw2,hat2,d0,d1,d2,d3,hL2⟩:=(HE.out _ Hbq.out).at hjl;have HI:=zh (HFi.out op2 n2 name2 args2 _ wr (zgR Hok1.out hat2) hL2 (Nat.le_trans hB (Nat.le_trans hszr Hbq.out.size)));have Hal2:=zh (all_take hat2 HA2.out)
              generalize zbd 40 (.mk op2 n2 name2 args2)=qf at *
              clear hat2 hL2
              cases qf with
              | false =>
               have HFz:Hid (final=false):=zh (HFq.out (by rw [HR2.out,Hal2.out.2 rfl,Bool.and_false]));clear Hal2;go_wp2_with fail
               refine HI.out.mono ?_;rintro e6 w6 ⟨rfl,hb6⟩;have Hb6:=zh (HB.out.trans ((Hbq.out.trans (hb6.mono Hbq.out.size)).mono hszr));clear hb6;go_wp2_with fail
               go_ret
               exact ⟨retb (a:=false) HFz.out.symm,Hb6.out⟩
              | true =>
               have HA3:=zh (Hal2.out.1 rfl);clear Hal2;go_wp2_with fail
               refine HI.out.mono ?_;rintro e6 w6 ⟨rfl,hb6⟩;have Hb6:=zh (HB2.out.trans (hb6.mono HB2.out.size));clear hb6;go_wp2_with fail
               go_roundw
               case rel=>exact ⟨j+1,by omega,by go_num,HA3,Hb6⟩
               case measure=>simp [intOf];omega
             ·have hji:¬ (j:Int) < 1:=by have:=Hl.out;omega
              have hje:j=es.length:=by omega
              have Hq:Hid (q=true):=zh (by have:=HA2.out;rw [hje,List.take_length] at this;rw [HR2.out,this,Bool.and_true];exact Hh.out);have HA3:=zh (Hal.out.1 Hq.out);have HB3:=zh (HB.out.trans (Hbq.out.mono hszr));clear Hq HR2 Hal HFq;go_wp2_with fail
              go_roundw
              case rel=>exact ⟨k+1,by omega,by go_num,HA3,HB3⟩
              case measure=>simp [intOf];omega
           ·have hel1:¬ (els.length:Int) > 0:=by omega
            have hel2:¬ 0 < els.length:=by omega
            clear hel;have Hh:Hid (zbA op n name es.length body.length els.length=true):=zh (by rw [HT.out,decide_eq_true Hl.out,Bool.true_and,decide_eq_true Hn.out,Bool.true_and,decide_eq_true Hz.out,Bool.true_and]);clear HT;go_upto_region 12 with (fail)
            simp only [List.append_eq,List.cons_append,List.nil_append];go_upto_region 14 with (fail)
            go_wp2_with fail
            have HXw:Hid (OwnV w3 wo.heap.size 56 [.int .u8 op,.int .i64 n,.string (bstr name),.slice ae es.length ce,.slice ab body.length cb,.slice al els.length cl]):=zh HX3.out;have Hbw:Hid (Below wo.heap.size wo w3):=zh (Hb3.out);go_loopw [4,8,131,132,133,134,135,136,137,138,139,140,141,142] (fun _ t8 _ _ _ _ _ _ _ _ _ _ _ _ wr=>∃ (j:Nat),j≤es.length∧t8=.int .i64 j∧Hid ((es.take j).all (zbd 40)=true)∧Hid (Below w3.heap.size w3 wr)) (fun _ t8 _ _ _ _ _ _ _ _ _ _ _ _ _=>es.length - (intOf t8).toNat)
            case atStart=>exact ⟨0,by omega,by first | rfl | go_num,zh (by simp),zh (Below.refl _ _)⟩
            case round =>
             obtain ⟨j,hj,rfl,HA2,HB2⟩:=hrel;have Hbq:Hid (Below wo.heap.size wo wr):=zh (Hbw.out.trans (HB2.out.mono Hbw.out.size));have hx3:=(HXw.out.below HB2.out (zr _)).cell (i:=3) rfl;by_cases hjl:j < es.length
             ·have hji:(j:Int) < 1:=by have:=Hl.out;omega
              have hji2:(j:Int) < (es.length:Int):=by omega
              have hcl2:(es.length:Int)≤9223372036854775807:=by omega
              obtain ⟨be,oe,op2,n2,name2,args2,aa,ac,rfl,hbB2,hbw2,hat2,d0,d1,d2,d3,hL2⟩:=(HE.out _ Hbq.out).at hjl;have HI:=zh (HFi.out op2 n2 name2 args2 _ wr (zgR Hok1.out hat2) hL2 (Nat.le_trans hB (Nat.le_trans hszr Hbq.out.size)));have Hal2:=zh (all_take hat2 HA2.out)
              generalize zbd 40 (.mk op2 n2 name2 args2)=qf at *
              clear hat2 hL2
              cases qf with
              | false =>
               have HFz:Hid (final=false):=zh (HFq.out (by rw [HR2.out,Hal2.out.2 rfl,Bool.and_false]));clear Hal2;go_wp2_with fail
               refine HI.out.mono ?_;rintro e6 w6 ⟨rfl,hb6⟩;have Hb6:=zh (HB.out.trans ((Hbq.out.trans (hb6.mono Hbq.out.size)).mono hszr));clear hb6;go_wp2_with fail
               go_ret
               exact ⟨retb (a:=false) HFz.out.symm,Hb6.out⟩
              | true =>
               have HA3:=zh (Hal2.out.1 rfl);clear Hal2;go_wp2_with fail
               refine HI.out.mono ?_;rintro e6 w6 ⟨rfl,hb6⟩;have Hb6:=zh (HB2.out.trans (hb6.mono HB2.out.size));clear hb6;go_wp2_with fail
               go_roundw
               case rel=>exact ⟨j+1,by omega,by go_num,HA3,Hb6⟩
               case measure=>simp [intOf];omega
             ·have hji:¬ (j:Int) < 1:=by have:=Hl.out;omega
              have hje:j=es.length:=by omega
              have Hq:Hid (q=true):=zh (by have:=HA2.out;rw [hje,List.take_length] at this;rw [HR2.out,this,Bool.and_true];exact Hh.out);have HA3:=zh (Hal.out.1 Hq.out);have HB3:=zh (HB.out.trans (Hbq.out.mono hszr));clear Hq HR2 Hal HFq;go_wp2_with fail
              go_roundw
              case rel=>exact ⟨k+1,by omega,by go_num,HA3,HB3⟩
              case measure=>simp [intOf];omega
         ·have hz1:(n != 0)=true:=by simp [hz]
          have Hz:=zh hz;clear hz;have HFz:Hid (final=false):=zh (HFq.out (by rw [HR2.out,HT.out,decide_eq_true Hl.out,Bool.true_and,decide_eq_true Hn.out,Bool.true_and,decide_eq_false Hz.out,Bool.false_and,Bool.false_and]));clear HR2 HT;go_upto_region 12 with (fail)
          simp only [List.append_eq,List.cons_append,List.nil_append];go_wp2_with (fail)
          go_ret;exact ⟨retb (a:=false) HFz.out.symm,HB.out.trans ((Hb3.out).mono hszr)⟩
        ·have hs:¬ (bstr name).toList=[]:=fun h=>hn (str_nil.1 h)
         have Hn:=zh hn;clear hn;have HFz:Hid (final=false):=zh (HFq.out (by rw [HR2.out,HT.out,decide_eq_true Hl.out,Bool.true_and,decide_eq_false Hn.out,Bool.false_and,Bool.false_and]));clear HR2 HT;go_upto_region 12 with (fail)
         simp only [List.append_eq,List.cons_append,List.nil_append];go_wp2_with (fail)
         go_ret;exact ⟨retb (a:=false) HFz.out.symm,HB.out.trans ((Hb3.out).mono hszr)⟩
       ·have hln:((es.length:Int) != 1)=true:=by rw [bne_iff_ne];omega
        have Hl:=zh hl;clear hl;have HFz:Hid (final=false):=zh (HFq.out (by rw [HR2.out,HT.out,decide_eq_false Hl.out,Bool.false_and,Bool.false_and]));clear HR2 HT;go_upto_region 12 with (fail)
        simp only [List.append_eq,List.cons_append,List.nil_append];go_wp2_with (fail)
        go_ret;exact ⟨retb (a:=false) HFz.out.symm,HB.out.trans ((Hb3.out).mono hszr)⟩
      ·have e3:(op == 3)=false:=by rw [beq_eq_false_iff_ne];omega
       have m3:(op != 3)=true:=by rw [bne_iff_ne];omega
       have m4:(op != 4)=true:=by rw [bne_iff_ne];omega
       have m5:(op != 5)=false:=by rw [bne_eq_false_iff_eq];omega
       have g5:op≤5:=by omega
       have g2:2 < op:=by omega
       have Hc:=zh hc;have HT:Hid (zbA op n name es.length body.length els.length=(decide (es.length=1) && (decide (name=[]) && (decide (n=0) && (decide (els.length=0)))))):=zh (zfq _ _ _ _ _ _ hc);clear hc;by_cases hl:es.length=1
       ·have hln:((es.length:Int) != 1)=false:=by rw [hl];rfl
        have Hl:=zh hl;clear hl;by_cases hn:name=[]
        ·have hs:(bstr name).toList=[]:=str_nil.2 hn;have Hn:=zh hn;clear hn;by_cases hz:n=0
         ·have hz1:(n != 0)=false:=by simp [hz]
          have Hz:=zh hz;clear hz;by_cases hbd:0 < body.length
          ·have hbd1:(body.length:Int) > 0:=by omega
           have hbd2:0 < body.length:=by omega
           clear hbd;by_cases hel:els.length=0
           ·have hel1:¬ (els.length:Int) > 0:=by omega
            have hel2:¬ 0 < els.length:=by omega
            have Hel:=zh hel;clear hel;have Hh:Hid (zbA op n name es.length body.length els.length=true):=zh (by rw [HT.out,decide_eq_true Hl.out,Bool.true_and,decide_eq_true Hn.out,Bool.true_and,decide_eq_true Hz.out,Bool.true_and,decide_eq_true Hel.out]);clear HT;go_upto_region 12 with (fail)
            simp only [List.append_eq,List.cons_append,List.nil_append];go_upto_region 14 with (fail)
            go_wp2_with fail
            have HXw:Hid (OwnV w3 wo.heap.size 56 [.int .u8 op,.int .i64 n,.string (bstr name),.slice ae es.length ce,.slice ab body.length cb,.slice al els.length cl]):=zh HX3.out;have Hbw:Hid (Below wo.heap.size wo w3):=zh (Hb3.out);go_loopw [4,8,131,132,133,134,135,136,137,138,139,140,141,142] (fun _ t8 _ _ _ _ _ _ _ _ _ _ _ _ wr=>∃ (j:Nat),j≤es.length∧t8=.int .i64 j∧Hid ((es.take j).all (zbd 40)=true)∧Hid (Below w3.heap.size w3 wr)) (fun _ t8 _ _ _ _ _ _ _ _ _ _ _ _ _=>es.length - (intOf t8).toNat)
            case atStart=>exact ⟨0,by omega,by first | rfl | go_num,zh (by simp),zh (Below.refl _ _)⟩
            case round =>
             obtain ⟨j,hj,rfl,HA2,HB2⟩:=hrel;have Hbq:Hid (Below wo.heap.size wo wr):=zh (Hbw.out.trans (HB2.out.mono Hbw.out.size));have hx3:=(HXw.out.below HB2.out (zr _)).cell (i:=3) rfl;by_cases hjl:j < es.length
             ·have hji:(j:Int) < 1:=by have:=Hl.out;omega
              have hji2:(j:Int) < (es.length:Int):=by omega
              have hcl2:(es.length:Int)≤9223372036854775807:=by omega
              obtain ⟨be,oe,op2,n2,name2,args2,aa,ac,rfl,hbB2,hbw2,hat2,d0,d1,d2,d3,hL2⟩:=(HE.out _ Hbq.out).at hjl;have HI:=zh (HFi.out op2 n2 name2 args2 _ wr (zgR Hok1.out hat2) hL2 (Nat.le_trans hB (Nat.le_trans hszr Hbq.out.size)));have Hal2:=zh (all_take hat2 HA2.out)
              generalize zbd 40 (.mk op2 n2 name2 args2)=qf at *
              clear hat2 hL2
              cases qf with
              | false =>
               have HFz:Hid (final=false):=zh (HFq.out (by rw [HR2.out,Hal2.out.2 rfl,Bool.and_false]));clear Hal2;go_wp2_with fail
               refine HI.out.mono ?_;rintro e6 w6 ⟨rfl,hb6⟩;have Hb6:=zh (HB.out.trans ((Hbq.out.trans (hb6.mono Hbq.out.size)).mono hszr));clear hb6;go_wp2_with fail
               go_ret
               exact ⟨retb (a:=false) HFz.out.symm,Hb6.out⟩
              | true =>
               have HA3:=zh (Hal2.out.1 rfl);clear Hal2;go_wp2_with fail
               refine HI.out.mono ?_;rintro e6 w6 ⟨rfl,hb6⟩;have Hb6:=zh (HB2.out.trans (hb6.mono HB2.out.size));clear hb6;go_wp2_with fail
               go_roundw
               case rel=>exact ⟨j+1,by omega,by go_num,HA3,Hb6⟩
               case measure=>simp [intOf];omega
             ·have hji:¬ (j:Int) < 1:=by have:=Hl.out;omega
              have hje:j=es.length:=by omega
              have Hq:Hid (q=true):=zh (by have:=HA2.out;rw [hje,List.take_length] at this;rw [HR2.out,this,Bool.and_true];exact Hh.out);have HA3:=zh (Hal.out.1 Hq.out);have HB3:=zh (HB.out.trans (Hbq.out.mono hszr));clear Hq HR2 Hal HFq;go_wp2_with fail
              go_roundw
              case rel=>exact ⟨k+1,by omega,by go_num,HA3,HB3⟩
              case measure=>simp [intOf];omega
           ·have hel1:(els.length:Int) > 0:=by omega
            have hel2:0 < els.length:=by omega
            have Hel:=zh hel;clear hel;have HFz:Hid (final=false):=zh (HFq.out (by rw [HR2.out,HT.out,decide_eq_true Hl.out,Bool.true_and,decide_eq_true Hn.out,Bool.true_and,decide_eq_true Hz.out,Bool.true_and,decide_eq_false Hel.out,Bool.false_and]));clear HR2 HT;go_upto_region 12 with (fail)
            simp only [List.append_eq,List.cons_append,List.nil_append];go_wp2_with (fail)
            go_ret;exact ⟨retb (a:=false) HFz.out.symm,HB.out.trans ((Hb3.out).mono hszr)⟩
          ·have hbd1:¬ (body.length:Int) > 0:=by omega
           have hbd2:¬ 0 < body.length:=by omega
           clear hbd;by_cases hel:els.length=0
           ·have hel1:¬ (els.length:Int) > 0:=by omega
            have hel2:¬ 0 < els.length:=by omega
            have Hel:=zh hel;clear hel;have Hh:Hid (zbA op n name es.length body.length els.length=true):=zh (by rw [HT.out,decide_eq_true Hl.out,Bool.true_and,decide_eq_true Hn.out,Bool.true_and,decide_eq_true Hz.out,Bool.true_and,decide_eq_true Hel.out]);clear HT;go_upto_region 12 with (fail)
            simp only [List.append_eq,List.cons_append,List.nil_append];go_upto_region 14 with (fail)
            go_wp2_with fail
            have HXw:Hid (OwnV w3 wo.heap.size 56 [.int .u8 op,.int .i64 n,.string (bstr name),.slice ae es.length ce,.slice ab body.length cb,.slice al els.length cl]):=zh HX3.out;have Hbw:Hid (Below wo.heap.size wo w3):=zh (Hb3.out);go_loopw [4,8,131,132,133,134,135,136,137,138,139,140,141,142] (fun _ t8 _ _ _ _ _ _ _ _ _ _ _ _ wr=>∃ (j:Nat),j≤es.length∧t8=.int .i64 j∧Hid ((es.take j).all (zbd 40)=true)∧Hid (Below w3.heap.size w3 wr)) (fun _ t8 _ _ _ _ _ _ _ _ _ _ _ _ _=>es.length - (intOf t8).toNat)
            case atStart=>exact ⟨0,by omega,by first | rfl | go_num,zh (by simp),zh (Below.refl _ _)⟩
            case round =>
             obtain ⟨j,hj,rfl,HA2,HB2⟩:=hrel;have Hbq:Hid (Below wo.heap.size wo wr):=zh (Hbw.out.trans (HB2.out.mono Hbw.out.size));have hx3:=(HXw.out.below HB2.out (zr _)).cell (i:=3) rfl;by_cases hjl:j < es.length
             ·have hji:(j:Int) < 1:=by have:=Hl.out;omega
              have hji2:(j:Int) < (es.length:Int):=by omega
              have hcl2:(es.length:Int)≤9223372036854775807:=by omega
              obtain ⟨be,oe,op2,n2,name2,args2,aa,ac,rfl,hbB2,hbw2,hat2,d0,d1,d2,d3,hL2⟩:=(HE.out _ Hbq.out).at hjl;have HI:=zh (HFi.out op2 n2 name2 args2 _ wr (zgR Hok1.out hat2) hL2 (Nat.le_trans hB (Nat.le_trans hszr Hbq.out.size)));have Hal2:=zh (all_take hat2 HA2.out)
              generalize zbd 40 (.mk op2 n2 name2 args2)=qf at *
              clear hat2 hL2
              cases qf with
              | false =>
               have HFz:Hid (final=false):=zh (HFq.out (by rw [HR2.out,Hal2.out.2 rfl,Bool.and_false]));clear Hal2;go_wp2_with fail
               refine HI.out.mono ?_;rintro e6 w6 ⟨rfl,hb6⟩;have Hb6:=zh (HB.out.trans ((Hbq.out.trans (hb6.mono Hbq.out.size)).mono hszr));clear hb6;go_wp2_with fail
               go_ret
               exact ⟨retb (a:=false) HFz.out.symm,Hb6.out⟩
              | true =>
               have HA3:=zh (Hal2.out.1 rfl);clear Hal2;go_wp2_with fail
               refine HI.out.mono ?_;rintro e6 w6 ⟨rfl,hb6⟩;have Hb6:=zh (HB2.out.trans (hb6.mono HB2.out.size));clear hb6;go_wp2_with fail
               go_roundw
               case rel=>exact ⟨j+1,by omega,by go_num,HA3,Hb6⟩
               case measure=>simp [intOf];omega
             ·have hji:¬ (j:Int) < 1:=by have:=Hl.out;omega
              have hje:j=es.length:=by omega
              have Hq:Hid (q=true):=zh (by have:=HA2.out;rw [hje,List.take_length] at this;rw [HR2.out,this,Bool.and_true];exact Hh.out);have HA3:=zh (Hal.out.1 Hq.out);have HB3:=zh (HB.out.trans (Hbq.out.mono hszr));clear Hq HR2 Hal HFq;go_wp2_with fail
              go_roundw
              case rel=>exact ⟨k+1,by omega,by go_num,HA3,HB3⟩
              case measure=>simp [intOf];omega
           ·have hel1:(els.length:Int) > 0:=by omega
            have hel2:0 < els.length:=by omega
            have Hel:=zh hel;clear hel;have HFz:Hid (final=false):=zh (HFq.out (by rw [HR2.out,HT.out,decide_eq_true Hl.out,Bool.true_and,decide_eq_true Hn.out,Bool.true_and,decide_eq_true Hz.out,Bool.true_and,decide_eq_false Hel.out,Bool.false_and]));clear HR2 HT;go_upto_region 12 with (fail)
            simp only [List.append_eq,List.cons_append,List.nil_append];go_wp2_with (fail)
            go_ret;exact ⟨retb (a:=false) HFz.out.symm,HB.out.trans ((Hb3.out).mono hszr)⟩
         ·have hz1:(n != 0)=true:=by simp [hz]
          have Hz:=zh hz;clear hz;have HFz:Hid (final=false):=zh (HFq.out (by rw [HR2.out,HT.out,decide_eq_true Hl.out,Bool.true_and,decide_eq_true Hn.out,Bool.true_and,decide_eq_false Hz.out,Bool.false_and,Bool.false_and]));clear HR2 HT;go_upto_region 12 with (fail)
          simp only [List.append_eq,List.cons_append,List.nil_append];go_wp2_with (fail)
          go_ret;exact ⟨retb (a:=false) HFz.out.symm,HB.out.trans ((Hb3.out).mono hszr)⟩
        ·have hs:¬ (bstr name).toList=[]:=fun h=>hn (str_nil.1 h)
         have Hn:=zh hn;clear hn;have HFz:Hid (final=false):=zh (HFq.out (by rw [HR2.out,HT.out,decide_eq_true Hl.out,Bool.true_and,decide_eq_false Hn.out,Bool.false_and,Bool.false_and]));clear HR2 HT;go_upto_region 12 with (fail)
         simp only [List.append_eq,List.cons_append,List.nil_append];go_wp2_with (fail)
         go_ret;exact ⟨retb (a:=false) HFz.out.symm,HB.out.trans ((Hb3.out).mono hszr)⟩
       ·have hln:((es.length:Int) != 1)=true:=by rw [bne_iff_ne];omega
        have Hl:=zh hl;clear hl;have HFz:Hid (final=false):=zh (HFq.out (by rw [HR2.out,HT.out,decide_eq_false Hl.out,Bool.false_and,Bool.false_and]));clear HR2 HT;go_upto_region 12 with (fail)
        simp only [List.append_eq,List.cons_append,List.nil_append];go_wp2_with (fail)
        go_ret;exact ⟨retb (a:=false) HFz.out.symm,HB.out.trans ((Hb3.out).mono hszr)⟩
      ·have e3:(op == 3)=false:=by rw [beq_eq_false_iff_ne];omega
       have m3:(op != 3)=true:=by rw [bne_iff_ne];omega
       have m4:(op != 4)=true:=by rw [bne_iff_ne];omega
       have m5:(op != 5)=true:=by rw [bne_iff_ne];omega
       have g5:5 < op:=by omega
       have g2:2 < op:=by omega
       have Hc:=zh hc;have HT:Hid (zbA op n name es.length body.length els.length=(decide (es.length=0) && (decide (name=[]) && (decide (n=0) && (decide (body.length=0) && decide (els.length=0)))))):=zh (zef _ _ _ _ _ _ hc hr7);clear hc;by_cases hl:es.length=0
       ·have hln:((es.length:Int) != 0)=false:=by rw [hl];rfl
        have Hl:=zh hl;clear hl;by_cases hn:name=[]
        ·have hs:(bstr name).toList=[]:=str_nil.2 hn;have Hn:=zh hn;clear hn;by_cases hz:n=0
         ·have hz1:(n != 0)=false:=by simp [hz]
          have Hz:=zh hz;clear hz;by_cases hbd:body.length=0
          ·have hbd1:¬ (body.length:Int) > 0:=by omega
           have hbd2:¬ 0 < body.length:=by omega
           have Hbd:=zh hbd;clear hbd;by_cases hel:els.length=0
           ·have hel1:¬ (els.length:Int) > 0:=by omega
            have hel2:¬ 0 < els.length:=by omega
            have Hel:=zh hel;clear hel;have Hh:Hid (zbA op n name es.length body.length els.length=true):=zh (by rw [HT.out,decide_eq_true Hl.out,Bool.true_and,decide_eq_true Hn.out,Bool.true_and,decide_eq_true Hz.out,Bool.true_and,decide_eq_true Hbd.out,Bool.true_and,decide_eq_true Hel.out]);clear HT;go_upto_region 12 with (fail)
            simp only [List.append_eq,List.cons_append,List.nil_append];go_upto_region 14 with (fail)
            go_wp2_with fail
            have HXw:Hid (OwnV w3 wo.heap.size 56 [.int .u8 op,.int .i64 n,.string (bstr name),.slice ae es.length ce,.slice ab body.length cb,.slice al els.length cl]):=zh HX3.out;have Hbw:Hid (Below wo.heap.size wo w3):=zh (Hb3.out);go_loopw [4,8,131,132,133,134,135,136,137,138,139,140,141,142] (fun _ t8 _ _ _ _ _ _ _ _ _ _ _ _ wr=>∃ (j:Nat),j≤es.length∧t8=.int .i64 j∧Hid ((es.take j).all (zbd 40)=true)∧Hid (Below w3.heap.size w3 wr)) (fun _ t8 _ _ _ _ _ _ _ _ _ _ _ _ _=>es.length - (intOf t8).toNat)
            case atStart=>exact ⟨0,by omega,by first | rfl | go_num,zh (by simp),zh (Below.refl _ _)⟩
            case round =>
             obtain ⟨j,hj,rfl,HA2,HB2⟩:=hrel;have Hbq:Hid (Below wo.heap.size wo wr):=zh (Hbw.out.trans (HB2.out.mono Hbw.out.size));have hx3:=(HXw.out.below HB2.out (zr _)).cell (i:=3) rfl;by_cases hjl:j < es.length
             ·have:=Hl.out;omega
             ·have hji:¬ (j:Int) < 0:=by have:=Hl.out;omega
              have hje:j=es.length:=by omega
              have Hq:Hid (q=true):=zh (by have:=HA2.out;rw [hje,List.take_length] at this;rw [HR2.out,this,Bool.and_true];exact Hh.out);have HA3:=zh (Hal.out.1 Hq.out);have HB3:=zh (HB.out.trans (Hbq.out.mono hszr));clear Hq HR2 Hal HFq;go_wp2_with fail
              go_roundw
              case rel=>exact ⟨k+1,by omega,by go_num,HA3,HB3⟩
              case measure=>simp [intOf];omega
           ·have hel1:(els.length:Int) > 0:=by omega
            have hel2:0 < els.length:=by omega
            have Hel:=zh hel;clear hel;have HFz:Hid (final=false):=zh (HFq.out (by rw [HR2.out,HT.out,decide_eq_true Hl.out,Bool.true_and,decide_eq_true Hn.out,Bool.true_and,decide_eq_true Hz.out,Bool.true_and,decide_eq_true Hbd.out,Bool.true_and,decide_eq_false Hel.out,Bool.false_and]));clear HR2 HT;go_upto_region 12 with (fail)
            simp only [List.append_eq,List.cons_append,List.nil_append];go_wp2_with (fail)
            go_ret;exact ⟨retb (a:=false) HFz.out.symm,HB.out.trans ((Hb3.out).mono hszr)⟩
          ·have hbd1:(body.length:Int) > 0:=by omega
           have hbd2:0 < body.length:=by omega
           have Hbd:=zh hbd;clear hbd;have HFz:Hid (final=false):=zh (HFq.out (by rw [HR2.out,HT.out,decide_eq_true Hl.out,Bool.true_and,decide_eq_true Hn.out,Bool.true_and,decide_eq_true Hz.out,Bool.true_and,decide_eq_false Hbd.out,Bool.false_and,Bool.false_and]));clear HR2 HT;go_upto_region 12 with (fail)
           simp only [List.append_eq,List.cons_append,List.nil_append];go_wp2_with (fail)
           go_ret;exact ⟨retb (a:=false) HFz.out.symm,HB.out.trans ((Hb3.out).mono hszr)⟩
         ·have hz1:(n != 0)=true:=by simp [hz]
          have Hz:=zh hz;clear hz;have HFz:Hid (final=false):=zh (HFq.out (by rw [HR2.out,HT.out,decide_eq_true Hl.out,Bool.true_and,decide_eq_true Hn.out,Bool.true_and,decide_eq_false Hz.out,Bool.false_and,Bool.false_and]));clear HR2 HT;go_upto_region 12 with (fail)
          simp only [List.append_eq,List.cons_append,List.nil_append];go_wp2_with (fail)
          go_ret;exact ⟨retb (a:=false) HFz.out.symm,HB.out.trans ((Hb3.out).mono hszr)⟩
        ·have hs:¬ (bstr name).toList=[]:=fun h=>hn (str_nil.1 h)
         have Hn:=zh hn;clear hn;have HFz:Hid (final=false):=zh (HFq.out (by rw [HR2.out,HT.out,decide_eq_true Hl.out,Bool.true_and,decide_eq_false Hn.out,Bool.false_and,Bool.false_and]));clear HR2 HT;go_upto_region 12 with (fail)
         simp only [List.append_eq,List.cons_append,List.nil_append];go_wp2_with (fail)
         go_ret;exact ⟨retb (a:=false) HFz.out.symm,HB.out.trans ((Hb3.out).mono hszr)⟩
       ·have hln:((es.length:Int) != 0)=true:=by rw [bne_iff_ne];omega
        have Hl:=zh hl;clear hl;have HFz:Hid (final=false):=zh (HFq.out (by rw [HR2.out,HT.out,decide_eq_false Hl.out,Bool.false_and,Bool.false_and]));clear HR2 HT;go_upto_region 12 with (fail)
        simp only [List.append_eq,List.cons_append,List.nil_append];go_wp2_with (fail)
        go_ret;exact ⟨retb (a:=false) HFz.out.symm,HB.out.trans ((Hb3.out).mono hszr)⟩
   ·have HFz:Hid (final=false):=zh (HFq.out (by rw [HR.out,zk3 _ _ _ _ _ _ hrg,Bool.false_and,Bool.and_false]));by_cases h1:op < 1
    ·clear hrg;go_upto_region 5 with (fail)
     rw [← HW1.out];go_wp2_with fail
     go_ret;exact ⟨retb (a:=false) HFz.out.symm,HB.out.trans ((Hb1.out).mono hszr)⟩
    ·have h2:7 < op:=by omega
     have h3:1≤op:=by omega
     clear hrg h1;go_upto_region 5 with (fail)
     rw [← HW1.out];go_wp2_with fail
     go_ret;exact ⟨retb (a:=false) HFz.out.symm,HB.out.trans ((Hb1.out).mono hszr)⟩
  ·have hki:¬ (k:Int) < (l.length:Int):=by omega
   have hke:k=l.length:=by omega
   have HFt:Hid (final=true):=zh (by have:=HA.out;rw [hke,List.take_length] at this;rw [HF.out,this]);clear HF;go_wp2_with fail
   go_ret;exact ⟨retb (a:=true) HFt.out.symm,HB.out⟩
theorem right_zero (l:List St) (v:Value) (w:World) (B:Nat) (hL:SsL w B l v) :
  Calls Tryz.prog 75 #[v,.int .i64 0] w (zbe (zaJ 0 l) w):=by
 obtain ⟨a,cap,rfl,hcc1,hcc2⟩:=hL.form;have HL:=zh hL;obtain ⟨final,hfin⟩:∃ q,zaJ 0 l=q:=⟨_,rfl⟩;have HF:Hid (final=l.isEmpty):=zh (by rw [← hfin,zaJ]);rw [hfin];clear hL hfin;go_enter Tryz.func75,Tryz.ntmps75
 go_wp2_with fail
 go_loopw [4,5,6,7,8,9,10,11,12,13,14,15,16,17,18,19,20,21,22,23,24,25,26,27,28,29,30,31,32,33,34,35,36,37,38,39,40,41,42,43,44,45,46,47,48,49,50,51,52,53,54,55,56,57,58,59,60,61,62,63,64,65,66,67,68,69,70,71,72,73,74,75,76,77,78,79,80,81,82,83,84,85,86,87,88,89,90,91,92,93,94,95,96,97,98,99,100,101,102,103,104,105,106,107,108,109,110,111,112,113,114,115,116,117,118,119,120,121,122,123,124,125,126,127,128,129,130,131,132,133,134,135,136,137,138,139,140,141,142] (fun _ t5 _ _ _ _ _ _ _ _ _ _ _ _ _ _ _ _ _ _ _ _ _ _ _ _ _ _ _ _ _ _ _ _ _ _ _ _ _ _ _ _ _ _ _ _ _ _ _ _ _ _ _ _ _ _ _ _ _ _ _ _ _ _ _ _ _ _ _ _ _ _ _ _ _ _ _ _ _ _ _ _ _ _ _ _ _ _ _ _ _ _ _ _ _ _ _ _ _ _ _ _ _ _ _ _ _ _ _ _ _ _ _ _ _ _ _ _ _ _ _ _ _ _ _ _ _ _ _ _ _ _ _ _ _ _ _ _ _ wr=>t5=.int .i64 0∧wr=w) (fun _ _ _ _ _ _ _ _ _ _ _ _ _ _ _ _ _ _ _ _ _ _ _ _ _ _ _ _ _ _ _ _ _ _ _ _ _ _ _ _ _ _ _ _ _ _ _ _ _ _ _ _ _ _ _ _ _ _ _ _ _ _ _ _ _ _ _ _ _ _ _ _ _ _ _ _ _ _ _ _ _ _ _ _ _ _ _ _ _ _ _ _ _ _ _ _ _ _ _ _ _ _ _ _ _ _ _ _ _ _ _ _ _ _ _ _ _ _ _ _ _ _ _ _ _ _ _ _ _ _ _ _ _ _ _ _ _ _ _ _=>0)
 case atStart=>exact ⟨by first | rfl | go_num,rfl⟩
 case round =>
  obtain ⟨rfl,rfl⟩:=hrel;by_cases hkl:0 < l.length
  ·have hki:(0:Int) < (l.length:Int):=by omega
   obtain ⟨b,off,op,n,name,es,body,els,ae,ce,ab,cb,al,cl,rfl,hbB,hbw,hat,c0,c1,c2,c3,c4,c5,hE,hBd,hEl⟩:=HL.out.at hkl
   have HFz:Hid (final=false):=zh (by rw [HF.out];cases l with
    | nil=>simp at hkl
    | cons x r=>rfl)
   rw [Nat.zero_mul,Nat.add_zero] at c0 c1 c2 c3 c4 c5;clear HF hE hBd hEl hat;go_wp2_with fail
   go_ret;exact ⟨retb (a:=false) HFz.out.symm,(Below.refl _ _).alloc (zr _) _⟩
  ·have hki:¬ (0:Int) < (l.length:Int):=by omega
   have HFz:Hid (final=true):=zh (by rw [HF.out];cases l with
    | nil=>rfl
    | cons x r=>simp at hkl)
   clear HF;go_wp2_with fail
   go_ret;exact ⟨retb (a:=true) HFz.out.symm,Below.refl _ _⟩
theorem right_any:∀ (d:Nat),d≤41→∀ (l:List St) (v:Value) (w:World) (B:Nat),okSs l→SsL w B l v→B≤w.heap.size→Calls Tryz.prog 75 #[v,.int .i64 d] w (zbe (zaJ d l) w):=by
 intro d
 induction d with
 | zero=>intro _ l v w B _ hL _;exact right_zero l v w B hL
 | succ d ih =>
  intro hd l v w B hok hL hB;rw [show ((d+1:Nat):Int)=(d:Int)+1 from Int.natCast_succ d];exact right_step d (by omega) (ih (by omega)) l v w B hok hL hB
theorem printable_any (l:List St) (v:Value) (w:World) (B:Nat) (hok:okSs l) (hL:SsL w B l v) (hB:B≤w.heap.size) :
  Calls Tryz.prog 44 #[v] w (zbe (zaJ 40 l) w):=by
 have H:Hid (Calls Tryz.prog 75 #[v,.int .i64 40] w _):=zh (right_any 40 (by omega) l v w B hok hL hB);obtain ⟨a,cap,rfl,hcc1,hcc2⟩:=hL.form
 generalize zaJ 40 l=q at *
 clear hL hok;go_enter Tryz.func44,Tryz.ntmps44
 go_wp2_with fail
 refine H.out.mono ?_;rintro e1 w1 ⟨rfl,hb⟩;have Hb:=zh hb;clear hb;go_wp2_with fail
 go_ret;exact ⟨rfl,Hb.out⟩
end Go.Proofs.YtoaojdobjinhfaaGreatDoor

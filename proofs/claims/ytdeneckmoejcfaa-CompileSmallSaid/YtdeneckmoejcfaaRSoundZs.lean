/- The reference's Sound, walked: it says what P13.2 says. -/
import Derived.Test.YtdeneckmoejcfaaPSoundZs
import Derived.Test.YtdeneckmoejcfaaRMaskZs
import Derived.Test.YtdeneckmoejcfaaRRightZs
import Derived.Test.YtdeneckmoejcfaaSoundTZs
set_option linter.unusedSimpArgs false
set_option linter.unusedVariables false
set_option maxRecDepth 100000
set_option maxHeartbeats 8000000
namespace Go.Proofs.Ytdeneckmoejcfaa
set_option linter.unnecessarySimpa false
open Go.RowKit
theorem right_is (n l op a:Int):rightI n l ⟨op,a⟩->(11<=op/\op<=13)->0<=a/\a<=n:=fun h hj=>right_jump h hj
theorem rsound_any (p:ProgS) (v:Value) (w:World) (hC:SlC w p.code v) (hl:p.code.length<=1000000) :
  Calls Try.prog 36 #[zow p v] w (SoundE p w):=by
 obtain ⟨ac,cap,rfl,hcap1,hcap2⟩:=Sl.form hC;obtain ⟨W1,hW1,hX1,hb1⟩:∃ W1,W1=w.alloc (.cells #[.slice ac p.code.length cap,.int .i64 p.locals,.int .u32 (w32 p.reads),.int .u32 (w32 p.writes)] 40)/\OwnV W1 w.heap.size 40 (p.cells (.slice ac p.code.length cap))/\Below w.heap.size w W1:=⟨_,rfl,OwnV.new _ _ _,(yR _ _).alloc (zr _) _⟩;have HM:=zh (rmasks_any p.code _ W1 (hC.below hb1) hl);have HC:=zh hC;have HX2:=zh hX1;have HW1:=zh hW1;have Hb2:=zh hb1;have hs2:=hb1.size;have x0:=hX1.cell (i:=0) (v:=.slice ac p.code.length cap) rfl;have x1:=hX1.cell (i:=1) (v:=.int .i64 p.locals) rfl;have x2:=hX1.cell (i:=2) (v:=.int .u32 (w32 p.reads)) rfl;have x3:=hX1.cell (i:=3) (v:=.int .u32 (w32 p.writes)) rfl;unfold zow;clear hX1 hb1 hC hW1;go_enter Try.func36,Try.ntmps36
 go_upto_region 1 with (fail)
 rw [<- HW1.out];go_wp2_with fail
 refine HM.out.mono ?_;rintro e2 w2 ⟨rfl,rfl⟩;by_cases k1:4000 < p.code.length
 ·have k1i:(p.code.length:Int) > 4000:=by omega
  have Hno:Hid (¬ SoundP p):=zh fun h=>by have:=h.basic.len;omega
  clear k1;go_wp2_with fail
  go_ret;exact ⟨false,rfl,by simpa using Hno.out,Hb2.out⟩
 have k1i:¬ (p.code.length:Int) > 4000:=by omega
 have k1j:(p.code.length:Int)<=4000:=by omega
 by_cases k2:p.locals < 0
 ·have Hno:Hid (¬ SoundP p):=zh fun h=>by have:=h.basic.loc;omega
  go_wp2_with fail
  go_ret;exact ⟨false,rfl,by simpa using Hno.out,Hb2.out⟩
 have k2i:0<=p.locals:=by omega
 by_cases k3:p.locals > 32
 ·have Hno:Hid (¬ SoundP p):=zh fun h=>by have:=h.basic.loc;omega
  go_wp2_with fail
  go_ret;exact ⟨false,rfl,by simpa using Hno.out,Hb2.out⟩
 have k3i:p.locals<=32:=by omega
 obtain ⟨r4,hr4⟩:∃ r,(w32 (znW 4 p.code) != w32 p.reads)=r:=⟨_,rfl⟩;obtain ⟨r5,hr5⟩:∃ r,(w32 (znW 5 p.code) != w32 p.writes)=r:=⟨_,rfl⟩;have Hr4:Hid (r4=false ↔ znW 4 p.code=p.reads):=zh (by rw [<- hr4,bne_eq_false_iff_eq];unfold w32;constructor <;> intro h;exact BitVec.eq_of_toNat_eq (by omega);rw [h]);have Hr5:Hid (r5=false ↔ znW 5 p.code=p.writes):=zh (by rw [<- hr5,bne_eq_false_iff_eq];unfold w32;constructor <;> intro h;exact BitVec.eq_of_toNat_eq (by omega);rw [h]);clear k1
 cases r4 with
 | true =>
  have Hno:Hid (¬ SoundP p):=zh fun h=>by have:=Hr4.out.2 h.basic.reads;cases this
  go_wp2_with fail
  go_ret
  exact ⟨false,rfl,by simpa using Hno.out,Hb2.out⟩
 | false =>
  cases r5 with
  | true =>
   have Hno:Hid (¬ SoundP p):=zh fun h=>by have:=Hr5.out.2 h.basic.writes;cases this
   go_wp2_with fail
   go_ret
   exact ⟨false,rfl,by simpa using Hno.out,Hb2.out⟩
  | false =>
   have Hbas0:Hid ((∀ i ∈ p.code,rightI p.code.length p.locals i)->Basic p):=zh fun h=>⟨by omega,⟨k2i,k3i⟩,h,Hr4.out.1 rfl,Hr5.out.1 rfl⟩
   have Hrt0:Hid (SoundP p->∀ i ∈ p.code,rightI p.code.length p.locals i):=zh fun h=>h.basic.right
   have Hfl0:Hid (SoundP p->Flow p.code):=zh fun h=>h.flow
   have Hso0:Hid (Basic p->Flow p.code->SoundP p):=zh fun h1 h2=>⟨h1,h2⟩
   clear Hr4 Hr5;go_upto_region 4 with (fail)
   clear hr4 hr5 x0 x1 x2 x3 k2 k3;have HRt:=zh (fun (op a:Int) (W:World)=>rright_any p ac cap op a W hl);go_wp2_with fail
   go_loopw [2,5,46,47,48,49,50,51,52,53,54,55,56,57,58,59,60] (fun _ t5 _ _ _ _ _ _ _ _ _ _ _ _ _ _ _ wr=>∃ k:Nat,k<=p.code.length/\t5=.int .i64 k/\Hid (∀ j,(h:j < p.code.length)->j < k->rightI p.code.length p.locals p.code[j])/\Hid (OwnV wr w.heap.size 40 (p.cells (.slice ac p.code.length cap)))/\Hid (Below w.heap.size w wr)) (fun _ t5 _ _ _ _ _ _ _ _ _ _ _ _ _ _ _ _=>p.code.length - (intOf t5).toNat)
   case atStart=>exact ⟨0,by omega,by first | rfl | go_num,zh (fun j _ h=>by omega),HX2,Hb2⟩
   case round =>
    obtain ⟨k,hk,rfl,Hri,HX,HB⟩:=hrel;have hsr:=HB.out.size;have x0:=HX.out.cell (i:=0) (v:=.slice ac p.code.length cap) rfl;have x1:=HX.out.cell (i:=1) (v:=.int .i64 p.locals) rfl;have x2:=HX.out.cell (i:=2) (v:=.int .u32 (w32 p.reads)) rfl;have x3:=HX.out.cell (i:=3) (v:=.int .u32 (w32 p.writes)) rfl;by_cases hkl:k < p.code.length
    ·have hki:(k:Int) < (p.code.length:Int):=by omega
     obtain ⟨b,off,rfl,hbw,c0,c1⟩:=(SlC.below HC.out HB.out).at hkl;obtain ⟨z,hz⟩:∃ z,z=p.code[k]:=⟨_,rfl⟩;have Hz:=zh hz;rw [<- hz] at c0 c1;clear hz;obtain ⟨op,av⟩:=z;simp only at c0 c1;obtain ⟨q,hq⟩:∃ q,decide (rightI p.code.length p.locals ⟨op,av⟩)=q:=⟨_,rfl⟩;have Hq:=zh hq;have HR1:=zh (fun W=>HRt.out op av W);rw [hq] at HR1;unfold zow at HR1;clear hq;go_wp2_with fail
     go_region_held3 (fun w'=>w'.cell? ⟨w.heap.size,0,none⟩=some (.slice (some ⟨b,off,none⟩) p.code.length cap)/\w'.cell? ⟨w.heap.size,1,none⟩=some (.int .i64 p.locals)/\w'.cell? ⟨w.heap.size,2,none⟩=some (.int .u32 (w32 p.reads))/\w'.cell? ⟨w.heap.size,3,none⟩=some (.int .u32 (w32 p.writes))/\w'.cell? ⟨b,off+k * 2,none⟩=some (.int .u8 op)/\w'.cell? ⟨b,off+k * 2+1,none⟩=some (.int .i64 av)) (go_keep) (first | (go_at_call 53;refine (HR1.out _).mono ?_;rintro e5 w5 ⟨rfl,hb5⟩;have B5:Below wr.heap.size wr w5:=(by first | exact hb5 | exact Below.trans (b:=wr.drew) ((yR _ _).drew) hb5);have f0:=Below.keep B5 x0;have f1:=Below.keep B5 x1;have f2:=Below.keep B5 x2;have f3:=Below.keep B5 x3;have f4:=Below.keep B5 c0;have f5:=Below.keep B5 c1))
     have HX5:=zh (HX.out.below B5 (zr _));have HB5:=zh (HB.out.trans (B5.mono hsr));clear hb5 B5 HR1
     cases q with
     | false =>
      have Hno:Hid (¬ SoundP p):=zh fun h=>by
       have h1:=Hrt0.out h p.code[k] (List.getElem_mem hkl);rw [<- Hz.out] at h1;have:=Hq.out;rw [decide_eq_true h1] at this;cases this
      go_wp2_with fail
      go_ret
      exact ⟨false,rfl,by simpa using Hno.out,HB5.out⟩
     | true =>
      have Hri2:Hid (∀ j,(h:j < p.code.length)->j < k+1->rightI p.code.length p.locals p.code[j]):=zh fun j h hj=>by
       by_cases e:j=k
       ·subst e;rw [<- Hz.out];exact of_decide_eq_true Hq.out
       ·exact Hri.out j h (by omega)
      go_wp2_with fail
      go_roundw
      case rel =>
       first
        | exact ⟨k+1,by omega,by go_num,Hri2,HX5,HB5⟩
        | exact ⟨k+1,by omega,by omega,Hri2,HX5,HB5⟩
      case measure=>simp [intOf];omega
    ·have hki:¬ (k:Int) < (p.code.length:Int):=by omega
     have Hright:Hid (∀ i ∈ p.code,rightI p.code.length p.locals i):=zh fun i hi=>by
      obtain ⟨j,hj,rfl⟩:=List.getElem_of_mem hi;exact Hri.out j hj (by omega)
     have Hiff:Hid (SoundP p ↔ Flow p.code):=zh ⟨Hfl0.out,Hso0.out (Hbas0.out Hright.out)⟩;clear Hri Hbas0 Hrt0 Hfl0 Hso0 HRt;go_upto_region 9 with (fail)
     obtain ⟨i0,hi,hz0,hz1,hz2⟩:=info_parts info_pint
     have hmk:∀ u:World,(Instr.makeSlice 48 (.int .i64 ((p.code.length:Int)+1)) (.int .i64 ((p.code.length:Int)+1))).run Try.prog u =
       .ok (.slice (some ⟨u.heap.size,0,none⟩) (p.code.length+1) (p.code.length+1)) (u.alloc (.cells (List.replicate (p.code.length+1) (Value.int .i64 0)).toArray 3)):=fun u=>by
      have h:=run_make (P:=Try.prog) u 48 3 i0 (.int .i64 0) Try.underlying48 hi hz0 .i64 .i64 ((p.code.length:Int)+1) ((p.code.length:Int)+1) (by omega) (Int.le_refl _) (by rw [hz2];omega) (by omega);rw [hz1,Nat.mul_one,made_one _ _ rfl] at h;simpa using h
     obtain ⟨dg,hdg⟩:∃ dg,dg=wr.heap.size:=⟨_,rfl⟩;obtain ⟨W5,hW5,hO5,hb5⟩:∃ W5,W5=wr.alloc (.cells (Array.replicate (p.code.length+1) (Value.int .i64 0)) 3)/\OwnV W5 dg 3 (List.replicate (p.code.length+1) (Value.int .i64 0))/\Below wr.heap.size wr W5:=⟨_,rfl,by rw [hdg];have:=OwnV.new wr 3 (List.replicate (p.code.length+1) (Value.int .i64 0));rwa [List.toArray_replicate] at this,(yR _ _).alloc (zr _) _⟩;have HO5:Hid (OwnV W5 dg 3 ((List.replicate (p.code.length+1) (0:Int)).map (Value.int .i64))):=zh (by rw [List.map_replicate];exact hO5);have HX5:=zh (HX.out.below hb5 (zr _));have HB5:=zh (HB.out.trans (hb5.mono hsr));have HW5:=zh hW5;have hwd:w.heap.size < dg:=by have:=HX.out.lt;omega
     have Hdg:=zh hdg;clear hW5 hO5 hb5 hdg hi hz0 hz1 hz2 HX HB;go_upto_region 10 with (fail)
     rw [<- Hdg.out,<- HW5.out];clear hmk x0 x1 x2 x3 hkl hki HW5 Hdg;have HF:=zh (fun W (hb:Below w.heap.size w W)=>HC.out.below hb);clear HC HX2 Hb2 HW1 HM
     generalize p.code=c at *
     go_wp2_with fail
     go_loopw [7,66,67,68,69,70,71,72,73,74,75] (fun t7 _ _ _ _ _ _ _ _ _ _ wr=>∃ (j:Nat) (ds:List Int),1<=j/\j<=c.length+1/\t7=.int .i64 j/\ds.length=c.length+1/\Hid (∀ x,x < c.length+1->ds[x]? = some (if x=0 then 0 else if x < j then -1 else 0))/\Hid (OwnV wr dg 3 (ds.map (Value.int .i64)))/\Hid (OwnV wr w.heap.size 40 (p.cells (.slice ac c.length cap)))/\Hid (Below w.heap.size w wr)) (fun t7 _ _ _ _ _ _ _ _ _ _ _=>c.length+1 - (intOf t7).toNat)
     case atStart=>exact ⟨1,List.replicate (c.length+1) 0,by omega,by omega,by first | rfl | go_num,by simp,zh (by
      intro x hx;rw [List.getElem?_replicate,yP hx];by_cases h0:x=0
      ·rw [yP h0]
      ·rw [yN h0,yN (by omega)]),HO5,HX5,HB5⟩
     case round =>
      obtain ⟨j,ds,hj1,hj2,rfl,hdl,Hds,HO,HX,HB⟩:=hrel;have x0:=HX.out.cell (i:=0) (v:=.slice ac c.length cap) rfl;by_cases hjl:j<=c.length
      ·have hji:(j:Int)<=(c.length:Int):=by omega
       have hj4:(j:Int) < (c.length:Int)+1:=by omega
       have hj5:j < c.length+1:=by omega
       have dj:wr.cell? ⟨dg,j,none⟩=some (.int .i64 (DD ds j)):=HO.out.cell (i:=j) (by rw [List.getElem?_map,DD_at (by omega)];rfl);have df:=HO.out.free j;have hHs:OwnV (wr.setCell ⟨dg,j,none⟩ (.int .i64 (-1))) dg 3 ((ds.set j (-1)).map (Value.int .i64)):=by rw [List.map_set];exact HO.out.set j _
       have HHs:=zh hHs;have HXs:Hid (OwnV (wr.setCell ⟨dg,j,none⟩ (.int .i64 (-1))) w.heap.size 40 (p.cells (.slice ac c.length cap))):=zh (HX.out.grown (zaY _ _ _ _) (by simp;omega));have HBs:=zh (HB.out.setCell (p:=⟨dg,j,none⟩) (by show w.heap.size<=dg;omega) (.int .i64 (-1)))
       have Hds2:Hid (∀ x,x < c.length+1->(ds.set j (-1))[x]? = some (if x=0 then 0 else if x < j+1 then -1 else 0)):=zh (by
        intro x hx;by_cases h:j=x
        ·subst h;rw [List.getElem?_set_self (by omega),yN (by omega),yP (by omega)]
        ·rw [List.getElem?_set_ne h,Hds.out x hx];by_cases h0:x=0
         ·rw [yP h0,yP h0]
         ·rw [yN h0,yN h0];by_cases h1:x < j
          ·rw [yP h1,yP (by omega)]
          ·rw [yN h1,yN (by omega)])
       clear hHs;go_wp2_with fail
       go_roundw
       case rel =>
        first
         | exact ⟨j+1,ds.set j (-1),by omega,by omega,by go_num,by rw [List.length_set];exact hdl,Hds2,HHs,HXs,HBs⟩
         | exact ⟨j+1,by omega,by omega,by omega,ds.set j (-1),by rw [List.length_set];exact hdl,Hds2,HHs,HXs,HBs⟩
       case measure=>simp [intOf];omega
      ·have hji:¬ (j:Int)<=(c.length:Int):=by omega
       have hst:ds=startN c.length:=List.ext_getElem? fun x=>by
        by_cases hx:x < c.length+1
        ·rw [Hds.out x hx]
         cases x with
         | zero=>rfl
         | succ x=>rw [yN (by omega),yP (by omega)];unfold startN;rw [List.getElem?_cons_succ,List.getElem?_replicate,yP (by omega)]
        ·rw [List.getElem?_eq_none (by omega),List.getElem?_eq_none (by simp [startN];omega)]
       have HOs:Hid (OwnV wr dg 3 ((startN c.length).map (Value.int .i64))):=zh (by rw [<- hst];exact HO.out);clear hst Hds HO HO5 HX5 HB5;go_wp2_with fail
       go_loopg [2,8,9,10,11,12,13,76,77,78,79,80,81,82,83,84,85,86,87,88,89,90,91,92,93,94,95,96,97,98,99,100,101,102,103,104,105,106,107,108,109,110,111,112,113,114,115,116,117,118,119,120,121,122,123,124,125,126,127,128,129,130,131,132,133,134,135,136,137,138,139,140,141,142,143,144,145,146,147,148,149,150,151,152,153,154,155,156,157,158,159,160,161,162,163,164,165] (cntN (startN c.length)+1) (fun g _ t8 _ _ _ _ _ _ _ _ _ _ _ _ _ _ _ _ _ _ _ _ _ _ _ _ _ _ _ _ _ _ _ _ _ _ _ _ _ _ _ _ _ _ _ _ _ _ _ _ _ _ _ _ _ _ _ _ _ _ _ _ _ _ _ _ _ _ _ _ _ _ _ _ _ _ _ _ _ _ _ _ _ _ _ _ _ _ _ _ _ _ _ _ _ _ _ wr=>∃ (ds:List Int) (more:Bool),t8=.bool more/\g=(if more=true then cntN ds+1 else 0)/\Hid (RInv c ds)/\Hid (more=false->∀ j,j < c.length->Closed c (DD ds) j)/\Hid (OwnV wr dg 3 (ds.map (Value.int .i64)))/\Hid (OwnV wr w.heap.size 40 (p.cells (.slice ac c.length cap)))/\Hid (Below w.heap.size w wr))
       case atStart=>exact ⟨startN c.length,true,rfl,rfl,zh (RInv.start c),zh (fun h=>by cases h),HOs,HX,HB⟩
       case round =>
        obtain ⟨ds,more,rfl,rfl,HI,HD,HO,HX,HB⟩:=hrel;have x0:=HX.out.cell (i:=0) (v:=.slice ac c.length cap) rfl
        cases more with
        | false =>
         have dn:wr.cell? ⟨dg,c.length,none⟩=some (.int .i64 (DD ds c.length)):=HO.out.cell (i:=c.length) (by rw [List.getElem?_map,DD_at (by rw [HI.out.len];omega)];rfl);have hn1:c.length < c.length+1:=by omega
         have hn2:(c.length:Int) < (c.length:Int)+1:=by omega
         have Hfin:Hid (∀ b:Bool,b=decide (DD ds c.length<=0)->(b=true ↔ SoundP p)):=zh fun b hb=>by rw [hb,decide_eq_true_iff,Hiff.out,HI.out.done (HD.out rfl)]
         go_wp2_with fail
         go_ret
         exact ⟨_,rfl,Hfin.out _ rfl,HB.out⟩
        | true =>
         go_wp2_with fail
         go_loopw [2,8,9,10,11,12,13,77,78,79,80,81,82,83,84,85,86,87,88,89,90,91,92,93,94,95,96,97,98,99,100,101,102,103,104,105,106,107,108,109,110,111,112,113,114,115,116,117,118,119,120,121,122,123,124,125,126,127,128,129,130,131,132,133,134,135,136,137,138,139,140,141,142,143,144,145,146,147,148,149,150,151,152,153,154,155,156,157,158,159,160,161,162,163,164,165] (fun _ t8 t9 _ _ _ _ _ _ _ _ _ _ _ _ _ _ _ _ _ _ _ _ _ _ _ _ _ _ _ _ _ _ _ _ _ _ _ _ _ _ _ _ _ _ _ _ _ _ _ _ _ _ _ _ _ _ _ _ _ _ _ _ _ _ _ _ _ _ _ _ _ _ _ _ _ _ _ _ _ _ _ _ _ _ _ _ _ _ _ _ _ _ _ _ _ wr=>∃ (i:Nat) (d1:List Int) (m:Bool),i<=c.length/\t9=.int .i64 i/\t8=.bool m/\Hid (RInv c d1)/\Hid (RMid c ds d1 m i)/\Hid (OwnV wr dg 3 (d1.map (Value.int .i64)))/\Hid (OwnV wr w.heap.size 40 (p.cells (.slice ac c.length cap)))/\Hid (Below w.heap.size w wr)) (fun _ _ t9 _ _ _ _ _ _ _ _ _ _ _ _ _ _ _ _ _ _ _ _ _ _ _ _ _ _ _ _ _ _ _ _ _ _ _ _ _ _ _ _ _ _ _ _ _ _ _ _ _ _ _ _ _ _ _ _ _ _ _ _ _ _ _ _ _ _ _ _ _ _ _ _ _ _ _ _ _ _ _ _ _ _ _ _ _ _ _ _ _ _ _ _ _ _=>c.length - (intOf t9).toNat)
         case atStart=>exact ⟨0,ds,false,by omega,by first | rfl | go_num,rfl,HI,zh (RMid.start c ds),HO,HX,HB⟩
         case round =>
          obtain ⟨i,d1,m,hil0,rfl,rfl,HI1,HM1,HO1,HX1,HB1⟩:=hrel;have hsr:=HB1.out.size;have x0:=HX1.out.cell (i:=0) (v:=.slice ac c.length cap) rfl;by_cases hil:i < c.length
          ·have hii:(i:Int) < (c.length:Int):=by omega
           have hi4:(i:Int) < (c.length:Int)+1:=by omega
           have hi5:i < c.length+1:=by omega
           obtain ⟨b,off,rfl,hbw,c0,c1⟩:=(HF.out wr HB1.out).at hil;obtain ⟨z,hz⟩:∃ z,z=c[i]:=⟨_,rfl⟩;have Hz:=zh hz;have Hri:=zh (Hright.out c[i] (List.getElem_mem hil));rw [<- hz] at c0 c1 Hri;clear hz;obtain ⟨op,av⟩:=z;simp only at c0 c1;obtain ⟨D,hD⟩:∃ D,D=DD d1 i:=⟨_,rfl⟩;have HDi:=zh hD;have hDb:=HI1.out.bound i;rw [<- hD] at hDb;obtain ⟨hDb1,hDb2⟩:=hDb;have di:wr.cell? ⟨dg,i,none⟩=some (.int .i64 D):=by rw [hD];exact HO1.out.cell (i:=i) (by rw [List.getElem?_map,DD_at (by rw [HI1.out.len];omega)];rfl)
           have hdw:dg < wr.heap.size:=HO1.out.lt;obtain ⟨tk,htk⟩:∃ t,takesI ⟨op,av⟩=t:=⟨_,rfl⟩;obtain ⟨ad,had⟩:∃ t,addsI ⟨op,av⟩ - takesI ⟨op,av⟩=t:=⟨_,rfl⟩;have hab:=addsI_pos ⟨op,av⟩;have htb:=takesI_pos ⟨op,av⟩;rw [htk] at htb;have hab2 : -2<=ad/\ad<=1:=by rw [<- had,htk];omega
           obtain ⟨hab3,hab4⟩:=hab2;have Hbe:Hid (behindI c[i] (DD d1 i)=D+ad/\takesI c[i]=tk):=zh (by rw [<- hD,<- Hz.out];exact ⟨by unfold behindI;omega,htk⟩);have HCh:=rchange_any op av;rw [had,htk] at HCh;have HCh:=zh HCh;have hop:=right_op Hri.out;clear hD htk had hab;go_upto_region 21 with (fail)
           obtain ⟨W8,hW8,hY8,hb8⟩:∃ W,W=wr.alloc (.cells #[.int .u8 op,.int .i64 av] 47)/\OwnV W wr.heap.size 47 [.int .u8 op,.int .i64 av]/\Below wr.heap.size wr W:=⟨_,rfl,OwnV.new _ _ _,(yR _ _).alloc (zr _) _⟩;rw [<- hW8];obtain ⟨y0,y1⟩:=yc2 hY8;have HY8:=zh hY8;have Hb8:=zh hb8;clear hW8 hY8 hb8 x0 c0 c1 di;go_wp2_with fail
           refine (HCh.out _).mono ?_;rintro e9 w9 ⟨rfl,hb9⟩;have b9:Below wr.heap.size wr w9:=Hb8.out.trans (hb9.mono Hb8.out.size);have HY9:=zh (HY8.out.below hb9 (zr _));have HO9:=zh (HO1.out.below b9 (zr _));have HX9:=zh (HX1.out.below b9 (zr _));have HB9:=zh (HB1.out.trans (b9.mono hsr));have hs9:wr.heap.size<=w9.heap.size:=b9.size;clear hb9 b9 y0 y1 HY8 Hb8 HO1 HX1 HB1;obtain ⟨y0,y1⟩:=yc2 HY9.out;have di:w9.cell? ⟨dg,i,none⟩=some (.int .i64 D):=by rw [HDi.out];exact HO9.out.cell (i:=i) (by rw [List.getElem?_map,DD_at (by rw [HI1.out.len];omega)];rfl)
           by_cases hneg:D < 0
           ·have HM2:=zh (HM1.out.skip (by rw [<- HDi.out];exact hneg));go_wp2_with fail
            go_roundw
            case rel =>
             first
              | exact ⟨i+1,d1,m,by omega,by go_num,rfl,HI1,HM2,HO9,HX9,HB9⟩
              | exact ⟨i+1,by omega,by omega,d1,HI1,HM2,HO9,HX9,HB9⟩
              | exact ⟨i+1,by omega,by omega,d1,m,rfl,HI1,HM2,HO9,HX9,HB9⟩
            case measure=>simp [intOf];omega
           have hge:0<=D:=by omega
           by_cases hf1:D < tk
           ·have Hno:Hid (¬ SoundP p):=zh fun h=>HI1.out.nofit hil (by rw [<- HDi.out];exact hge) (fun hf=>by have h1:=hf.1;rw [Hbe.out.2,<- HDi.out] at h1;omega) (Hiff.out.1 h)
            go_wp2_with fail
            go_ret;exact ⟨false,rfl,by simpa using Hno.out,HB9.out⟩
           by_cases hf2:D+ad > 64
           ·have Hno:Hid (¬ SoundP p):=zh fun h=>HI1.out.nofit hil (by rw [<- HDi.out];exact hge) (fun hf=>by have h1:=hf.2;rw [Hbe.out.1] at h1;omega) (Hiff.out.1 h)
            go_wp2_with fail
            go_ret;exact ⟨false,rfl,by simpa using Hno.out,HB9.out⟩
           have Hfit:Hid (fitI c[i] (DD d1 i)):=zh ⟨by rw [Hbe.out.2,<- HDi.out];omega,by rw [Hbe.out.1];omega⟩;have Hge:Hid (0<=DD d1 i):=zh (by rw [<- HDi.out];exact hge);have hd0:0<=D+ad:=by have:=behind_pos Hfit.out;rw [Hbe.out.1] at this;exact this
           have hd64:D+ad<=64:=by omega
           have hwrap:IntKind.i64.wrap (D+ad)=D+ad:=IntWalk.i64_in _ (by omega);go_upto_region 26 with (fail)
           clear hneg hf1 hf2 htb hDb1 hab3 hab4;have HNo:Hid (∀ (E:List Int) (tq:Nat),RInv c E->DD E i=DD d1 i->tq ∈ nextsI i c[i]->¬ DD E tq < 0->¬ DD E tq=D+ad->¬ SoundP p):=zh fun E tq hE hEi hto h1 h2 h=>hE.clash hil (by rw [hEi];exact Hge.out) (by rw [hEi];exact Hfit.out) hto (by omega) (by rw [hEi,Hbe.out.1];exact h2) (Hiff.out.1 h)
           have kinds:op=11∨op=14∨op=15∨op=12∨op=13∨(op≠11/\op≠14/\op≠15/\op≠12/\op≠13):=by omega
           rcases kinds with rfl | rfl | rfl | rfl | rfl | ⟨o1,o2,o3,o4,o5⟩
           ·obtain ⟨hav0,hav1⟩:=right_is _ _ _ _ Hri.out (by omega);obtain ⟨t,rfl⟩:=Int.eq_ofNat_of_zero_le hav0;have hta:t < c.length+1:=by omega
            have htb1:(t:Int) < (c.length:Int)+1:=by omega
            have hj0:=jumps_any 11 (t:Nat);rw [show zn5 ⟨11,(t:Nat)⟩=true from rfl] at hj0;have HJ:=zh hj0;clear hj0;have Hn2:Hid (t ∈ nextsI i c[i]):=zh (by rw [<- Hz.out];simp [nextsI]);have Hall:Hid (∀ tq,tq ∈ nextsI i c[i]->tq=t):=zh (fun tq h=>by rw [<- Hz.out] at h;simpa [nextsI] using h);go_wp2_with fail
            refine (HJ.out _).mono ?_;rintro ejz wjz ⟨rfl,hbjz⟩;have HOjz:=zh (HO9.out.below hbjz (zr _));have HXjz:=zh (HX9.out.below hbjz (zr _));have HYjz:=zh (HY9.out.below hbjz (zr _));have HBjz:=zh (HB9.out.trans (hbjz.mono HB9.out.size));clear hbjz;obtain ⟨u0z,u1z⟩:=yc2 HYjz.out;have etq1:wjz.cell? ⟨dg,t,none⟩=some (.int .i64 (DD (d1) (t))):=HOjz.out.cell (i:=t) (by rw [List.getElem?_map,DD_at (by rw [HI1.out.len];omega)];rfl);have efq1:=HOjz.out.free (t);by_cases hnq1:DD (d1) (t) < 0
            ·have HOsq1:Hid (OwnV (wjz.setCell ⟨dg,t,none⟩ (.int .i64 (D+ad))) dg 3 (((d1).set (t) (D+ad)).map (Value.int .i64))):=zh (by rw [List.map_set];exact HOjz.out.set _ _);have HXsq1:Hid (OwnV (wjz.setCell ⟨dg,t,none⟩ (.int .i64 (D+ad))) w.heap.size 40 (p.cells (.slice (some ⟨b,off,none⟩) c.length cap))):=zh (HXjz.out.grown (zaY _ _ _ _) (by simp;omega));have HYsq1:Hid (OwnV (wjz.setCell ⟨dg,t,none⟩ (.int .i64 (D+ad))) wr.heap.size 47 [.int .u8 11,.int .i64 (t:Nat)]):=zh (HYjz.out.grown (zaY _ _ _ _) (by simp;omega));have HBsq1:=zh (HBjz.out.setCell (p:=⟨dg,t,none⟩) (by show w.heap.size<=dg;omega) (.int .i64 (D+ad)))
             have HIsq1:Hid (RInv c ((d1).set (t) (D+ad))):=zh (by
              have h:=HI1.out.step hil (by rw [(rfl:DD d1 i=DD d1 i)];exact Hge.out) (by rw [(rfl:DD d1 i=DD d1 i)];exact Hfit.out) Hn2.out (by omega) hnq1;rw [(rfl:DD d1 i=DD d1 i),Hbe.out.1] at h
              exact h)
             have Hcsq1:Hid (cntN ((d1).set (t) (D+ad))+1=cntN (d1)):=zh (cntN_set _ _ _ (by rw [HI1.out.len];omega) hnq1 hd0)
             have HEiq1:Hid (DD ((d1).set (t) (D+ad)) i=DD d1 i):=zh (by
              exact (DD_set_ne (fun e=>by have h1:=(rfl:DD d1 i=DD d1 i);have h2:=Hge.out;rw [e] at hnq1;omega)).trans (rfl:DD d1 i=DD d1 i))
             have HMe:=zh (HM1.out.set (j:=i+1) Hcsq1.out);go_wp2_with fail
             go_roundw
             case rel =>
              first
               | exact ⟨i+1,d1.set (t) (D+ad),true,by omega,by go_num,rfl,HIsq1,HMe,HOsq1,HXsq1,HBsq1⟩
               | exact ⟨i+1,by omega,by omega,d1.set (t) (D+ad),HIsq1,HMe,HOsq1,HXsq1,HBsq1⟩
               | exact ⟨i+1,by omega,by omega,d1.set (t) (D+ad),true,rfl,HIsq1,HMe,HOsq1,HXsq1,HBsq1⟩
             case measure=>first | (simp [intOf];omega) | simp [intOf]
            ·by_cases heq1:DD (d1) (t)=D+ad
             ·rw [heq1] at etq1;have HMe:=zh (HM1.out.next (fun _ _=>⟨Hfit.out,fun tq hto=>by rw [Hall.out tq hto,Hbe.out.1];exact heq1⟩));go_wp2_with fail
              go_roundw
              case rel =>
               first
                | exact ⟨i+1,d1,m,by omega,by go_num,rfl,HI1,HMe,HOjz,HXjz,HBjz⟩
                | exact ⟨i+1,by omega,by omega,d1,HI1,HMe,HOjz,HXjz,HBjz⟩
                | exact ⟨i+1,by omega,by omega,d1,m,rfl,HI1,HMe,HOjz,HXjz,HBjz⟩
              case measure=>first | (simp [intOf];omega) | simp [intOf]
             ·have Hno:Hid (¬ SoundP p):=zh (HNo.out (d1) (t) HI1.out (rfl:DD d1 i=DD d1 i) Hn2.out (by omega) heq1);have hbq1:(DD (d1) (t) != D+ad)=true:=by simp [heq1]
              go_wp2_with fail
              go_ret;exact ⟨false,rfl,by simpa using Hno.out,HBjz.out⟩
           ·have hj0:=jumps_any 14 av;rw [show zn5 ⟨14,av⟩=false from rfl] at hj0;have HJ:=zh hj0;clear hj0;have Hall:Hid (∀ tq,tq ∈ nextsI i c[i]->False):=zh (fun tq h=>by rw [<- Hz.out] at h;simpa [nextsI] using h);go_wp2_with fail
            refine (HJ.out _).mono ?_;rintro ejz wjz ⟨rfl,hbjz⟩;have HOjz:=zh (HO9.out.below hbjz (zr _));have HXjz:=zh (HX9.out.below hbjz (zr _));have HYjz:=zh (HY9.out.below hbjz (zr _));have HBjz:=zh (HB9.out.trans (hbjz.mono HB9.out.size));clear hbjz;obtain ⟨u0z,u1z⟩:=yc2 HYjz.out;have HMe:=zh (HM1.out.next (fun _ _=>⟨Hfit.out,fun tq hto=>(Hall.out tq hto).elim⟩));go_wp2_with fail
            go_roundw
            case rel =>
             first
              | exact ⟨i+1,d1,m,by omega,by go_num,rfl,HI1,HMe,HOjz,HXjz,HBjz⟩
              | exact ⟨i+1,by omega,by omega,d1,HI1,HMe,HOjz,HXjz,HBjz⟩
              | exact ⟨i+1,by omega,by omega,d1,m,rfl,HI1,HMe,HOjz,HXjz,HBjz⟩
            case measure=>first | (simp [intOf];omega) | simp [intOf]
           ·have hj0:=jumps_any 15 av;rw [show zn5 ⟨15,av⟩=false from rfl] at hj0;have HJ:=zh hj0;clear hj0;have Hall:Hid (∀ tq,tq ∈ nextsI i c[i]->False):=zh (fun tq h=>by rw [<- Hz.out] at h;simpa [nextsI] using h);go_wp2_with fail
            refine (HJ.out _).mono ?_;rintro ejz wjz ⟨rfl,hbjz⟩;have HOjz:=zh (HO9.out.below hbjz (zr _));have HXjz:=zh (HX9.out.below hbjz (zr _));have HYjz:=zh (HY9.out.below hbjz (zr _));have HBjz:=zh (HB9.out.trans (hbjz.mono HB9.out.size));clear hbjz;obtain ⟨u0z,u1z⟩:=yc2 HYjz.out;have HMe:=zh (HM1.out.next (fun _ _=>⟨Hfit.out,fun tq hto=>(Hall.out tq hto).elim⟩));go_wp2_with fail
            go_roundw
            case rel =>
             first
              | exact ⟨i+1,d1,m,by omega,by go_num,rfl,HI1,HMe,HOjz,HXjz,HBjz⟩
              | exact ⟨i+1,by omega,by omega,d1,HI1,HMe,HOjz,HXjz,HBjz⟩
              | exact ⟨i+1,by omega,by omega,d1,m,rfl,HI1,HMe,HOjz,HXjz,HBjz⟩
            case measure=>first | (simp [intOf];omega) | simp [intOf]
           ·obtain ⟨hav0,hav1⟩:=right_is _ _ _ _ Hri.out (by omega);obtain ⟨t,rfl⟩:=Int.eq_ofNat_of_zero_le hav0;have hta:t < c.length+1:=by omega
            have htb1:(t:Int) < (c.length:Int)+1:=by omega
            have hj0:=jumps_any 12 (t:Nat);rw [show zn5 ⟨12,(t:Nat)⟩=true from rfl] at hj0;have HJ:=zh hj0;clear hj0;have Hn1:Hid (i+1 ∈ nextsI i c[i]):=zh (by rw [<- Hz.out];simp [nextsI]);have Hn2:Hid (t ∈ nextsI i c[i]):=zh (by rw [<- Hz.out];simp [nextsI]);have Hall:Hid (∀ tq,tq ∈ nextsI i c[i]->tq=i+1∨tq=t):=zh (fun tq h=>by rw [<- Hz.out] at h;simpa [nextsI] using h);have hi6:((i:Int)+1).toNat=i+1:=by omega
            have hi7:(0:Int)<=(i:Int)+1:=by omega
            have hi8:(i:Int)+1 < (c.length:Int)+1:=by omega
            have hi9:i+1 < c.length+1:=by omega
            have hwi:IntKind.i64.wrap ((i:Int)+1)=(i:Int)+1:=IntWalk.i64_in _ (by omega);have etq2:w9.cell? ⟨dg,i+1,none⟩=some (.int .i64 (DD (d1) (i+1))):=HO9.out.cell (i:=i+1) (by rw [List.getElem?_map,DD_at (by rw [HI1.out.len];omega)];rfl);have efq2:=HO9.out.free (i+1);by_cases hnq2:DD (d1) (i+1) < 0
            ·have HOsq2:Hid (OwnV (w9.setCell ⟨dg,i+1,none⟩ (.int .i64 (D+ad))) dg 3 (((d1).set (i+1) (D+ad)).map (Value.int .i64))):=zh (by rw [List.map_set];exact HO9.out.set _ _);have HXsq2:Hid (OwnV (w9.setCell ⟨dg,i+1,none⟩ (.int .i64 (D+ad))) w.heap.size 40 (p.cells (.slice (some ⟨b,off,none⟩) c.length cap))):=zh (HX9.out.grown (zaY _ _ _ _) (by simp;omega));have HYsq2:Hid (OwnV (w9.setCell ⟨dg,i+1,none⟩ (.int .i64 (D+ad))) wr.heap.size 47 [.int .u8 12,.int .i64 (t:Nat)]):=zh (HY9.out.grown (zaY _ _ _ _) (by simp;omega));have HBsq2:=zh (HB9.out.setCell (p:=⟨dg,i+1,none⟩) (by show w.heap.size<=dg;omega) (.int .i64 (D+ad)))
             have HIsq2:Hid (RInv c ((d1).set (i+1) (D+ad))):=zh (by
              have h:=HI1.out.step hil (by rw [(rfl:DD d1 i=DD d1 i)];exact Hge.out) (by rw [(rfl:DD d1 i=DD d1 i)];exact Hfit.out) Hn1.out (by omega) hnq2;rw [(rfl:DD d1 i=DD d1 i),Hbe.out.1] at h
              exact h)
             have Hcsq2:Hid (cntN ((d1).set (i+1) (D+ad))+1=cntN (d1)):=zh (cntN_set _ _ _ (by rw [HI1.out.len];omega) hnq2 hd0)
             have HEiq2:Hid (DD ((d1).set (i+1) (D+ad)) i=DD d1 i):=zh (by
              exact (DD_set_ne (fun e=>by have h1:=(rfl:DD d1 i=DD d1 i);have h2:=Hge.out;rw [e] at hnq2;omega)).trans (rfl:DD d1 i=DD d1 i))
             go_wp2_with fail
             refine (HJ.out _).mono ?_;rintro ejaq2 wjaq2 ⟨rfl,hbjaq2⟩;have HOjaq2:=zh (HOsq2.out.below hbjaq2 (zr _));have HXjaq2:=zh (HXsq2.out.below hbjaq2 (zr _));have HYjaq2:=zh (HYsq2.out.below hbjaq2 (zr _));have HBjaq2:=zh (HBsq2.out.trans (hbjaq2.mono HBsq2.out.size));clear hbjaq2;obtain ⟨u0aq2,u1aq2⟩:=yc2 HYjaq2.out;have etq3:wjaq2.cell? ⟨dg,t,none⟩=some (.int .i64 (DD (d1.set (i+1) (D+ad)) (t))):=HOjaq2.out.cell (i:=t) (by rw [List.getElem?_map,DD_at (by rw [HIsq2.out.len];omega)];rfl);have efq3:=HOjaq2.out.free (t);by_cases hnq3:DD (d1.set (i+1) (D+ad)) (t) < 0
             ·have HOsq3:Hid (OwnV (wjaq2.setCell ⟨dg,t,none⟩ (.int .i64 (D+ad))) dg 3 (((d1.set (i+1) (D+ad)).set (t) (D+ad)).map (Value.int .i64))):=zh (by rw [List.map_set];exact HOjaq2.out.set _ _);have HXsq3:Hid (OwnV (wjaq2.setCell ⟨dg,t,none⟩ (.int .i64 (D+ad))) w.heap.size 40 (p.cells (.slice (some ⟨b,off,none⟩) c.length cap))):=zh (HXjaq2.out.grown (zaY _ _ _ _) (by simp;omega));have HYsq3:Hid (OwnV (wjaq2.setCell ⟨dg,t,none⟩ (.int .i64 (D+ad))) wr.heap.size 47 [.int .u8 12,.int .i64 (t:Nat)]):=zh (HYjaq2.out.grown (zaY _ _ _ _) (by simp;omega));have HBsq3:=zh (HBjaq2.out.setCell (p:=⟨dg,t,none⟩) (by show w.heap.size<=dg;omega) (.int .i64 (D+ad)))
              have HIsq3:Hid (RInv c ((d1.set (i+1) (D+ad)).set (t) (D+ad))):=zh (by
               have h:=HIsq2.out.step hil (by rw [HEiq2.out];exact Hge.out) (by rw [HEiq2.out];exact Hfit.out) Hn2.out (by omega) hnq3;rw [HEiq2.out,Hbe.out.1] at h
               exact h)
              have Hcsq3:Hid (cntN ((d1.set (i+1) (D+ad)).set (t) (D+ad))+1=cntN (d1.set (i+1) (D+ad))):=zh (cntN_set _ _ _ (by rw [HIsq2.out.len];omega) hnq3 hd0)
              have HEiq3:Hid (DD ((d1.set (i+1) (D+ad)).set (t) (D+ad)) i=DD d1 i):=zh (by
               exact (DD_set_ne (fun e=>by have h1:=HEiq2.out;have h2:=Hge.out;rw [e] at hnq3;omega)).trans HEiq2.out)
              have HMe:=zh ((HM1.out.set (j:=i+1) Hcsq2.out).set (j:=i+1) Hcsq3.out);go_wp2_with fail
              go_roundw
              case rel =>
               first
                | exact ⟨i+1,(d1.set (i+1) (D+ad)).set (t) (D+ad),true,by omega,by go_num,rfl,HIsq3,HMe,HOsq3,HXsq3,HBsq3⟩
                | exact ⟨i+1,by omega,by omega,(d1.set (i+1) (D+ad)).set (t) (D+ad),HIsq3,HMe,HOsq3,HXsq3,HBsq3⟩
                | exact ⟨i+1,by omega,by omega,(d1.set (i+1) (D+ad)).set (t) (D+ad),true,rfl,HIsq3,HMe,HOsq3,HXsq3,HBsq3⟩
              case measure=>first | (simp [intOf];omega) | simp [intOf]
             ·by_cases heq3:DD (d1.set (i+1) (D+ad)) (t)=D+ad
              ·rw [heq3] at etq3;have HMe:=zh (HM1.out.set (j:=i+1) Hcsq2.out);go_wp2_with fail
               go_roundw
               case rel =>
                first
                 | exact ⟨i+1,d1.set (i+1) (D+ad),true,by omega,by go_num,rfl,HIsq2,HMe,HOjaq2,HXjaq2,HBjaq2⟩
                 | exact ⟨i+1,by omega,by omega,d1.set (i+1) (D+ad),HIsq2,HMe,HOjaq2,HXjaq2,HBjaq2⟩
                 | exact ⟨i+1,by omega,by omega,d1.set (i+1) (D+ad),true,rfl,HIsq2,HMe,HOjaq2,HXjaq2,HBjaq2⟩
               case measure=>first | (simp [intOf];omega) | simp [intOf]
              ·have Hno:Hid (¬ SoundP p):=zh (HNo.out (d1.set (i+1) (D+ad)) (t) HIsq2.out HEiq2.out Hn2.out (by omega) heq3);have hbq3:(DD (d1.set (i+1) (D+ad)) (t) != D+ad)=true:=by simp [heq3]
               go_wp2_with fail
               go_ret;exact ⟨false,rfl,by simpa using Hno.out,HBjaq2.out⟩
            ·by_cases heq2:DD (d1) (i+1)=D+ad
             ·rw [heq2] at etq2;go_wp2_with fail
              refine (HJ.out _).mono ?_;rintro ejbq2 wjbq2 ⟨rfl,hbjbq2⟩;have HOjbq2:=zh (HO9.out.below hbjbq2 (zr _));have HXjbq2:=zh (HX9.out.below hbjbq2 (zr _));have HYjbq2:=zh (HY9.out.below hbjbq2 (zr _));have HBjbq2:=zh (HB9.out.trans (hbjbq2.mono HB9.out.size));clear hbjbq2;obtain ⟨u0bq2,u1bq2⟩:=yc2 HYjbq2.out;have etq4:wjbq2.cell? ⟨dg,t,none⟩=some (.int .i64 (DD (d1) (t))):=HOjbq2.out.cell (i:=t) (by rw [List.getElem?_map,DD_at (by rw [HI1.out.len];omega)];rfl);have efq4:=HOjbq2.out.free (t);by_cases hnq4:DD (d1) (t) < 0
              ·have HOsq4:Hid (OwnV (wjbq2.setCell ⟨dg,t,none⟩ (.int .i64 (D+ad))) dg 3 (((d1).set (t) (D+ad)).map (Value.int .i64))):=zh (by rw [List.map_set];exact HOjbq2.out.set _ _);have HXsq4:Hid (OwnV (wjbq2.setCell ⟨dg,t,none⟩ (.int .i64 (D+ad))) w.heap.size 40 (p.cells (.slice (some ⟨b,off,none⟩) c.length cap))):=zh (HXjbq2.out.grown (zaY _ _ _ _) (by simp;omega));have HYsq4:Hid (OwnV (wjbq2.setCell ⟨dg,t,none⟩ (.int .i64 (D+ad))) wr.heap.size 47 [.int .u8 12,.int .i64 (t:Nat)]):=zh (HYjbq2.out.grown (zaY _ _ _ _) (by simp;omega));have HBsq4:=zh (HBjbq2.out.setCell (p:=⟨dg,t,none⟩) (by show w.heap.size<=dg;omega) (.int .i64 (D+ad)))
               have HIsq4:Hid (RInv c ((d1).set (t) (D+ad))):=zh (by
                have h:=HI1.out.step hil (by rw [(rfl:DD d1 i=DD d1 i)];exact Hge.out) (by rw [(rfl:DD d1 i=DD d1 i)];exact Hfit.out) Hn2.out (by omega) hnq4;rw [(rfl:DD d1 i=DD d1 i),Hbe.out.1] at h
                exact h)
               have Hcsq4:Hid (cntN ((d1).set (t) (D+ad))+1=cntN (d1)):=zh (cntN_set _ _ _ (by rw [HI1.out.len];omega) hnq4 hd0)
               have HEiq4:Hid (DD ((d1).set (t) (D+ad)) i=DD d1 i):=zh (by
                exact (DD_set_ne (fun e=>by have h1:=(rfl:DD d1 i=DD d1 i);have h2:=Hge.out;rw [e] at hnq4;omega)).trans (rfl:DD d1 i=DD d1 i))
               have HMe:=zh (HM1.out.set (j:=i+1) Hcsq4.out);go_wp2_with fail
               go_roundw
               case rel =>
                first
                 | exact ⟨i+1,d1.set (t) (D+ad),true,by omega,by go_num,rfl,HIsq4,HMe,HOsq4,HXsq4,HBsq4⟩
                 | exact ⟨i+1,by omega,by omega,d1.set (t) (D+ad),HIsq4,HMe,HOsq4,HXsq4,HBsq4⟩
                 | exact ⟨i+1,by omega,by omega,d1.set (t) (D+ad),true,rfl,HIsq4,HMe,HOsq4,HXsq4,HBsq4⟩
               case measure=>first | (simp [intOf];omega) | simp [intOf]
              ·by_cases heq4:DD (d1) (t)=D+ad
               ·rw [heq4] at etq4;have HMe:=zh (HM1.out.next (fun _ _=>⟨Hfit.out,fun tq hto=>by rw [Hbe.out.1];rcases Hall.out tq hto with rfl | rfl;exact heq2;exact heq4⟩));go_wp2_with fail
                go_roundw
                case rel =>
                 first
                  | exact ⟨i+1,d1,m,by omega,by go_num,rfl,HI1,HMe,HOjbq2,HXjbq2,HBjbq2⟩
                  | exact ⟨i+1,by omega,by omega,d1,HI1,HMe,HOjbq2,HXjbq2,HBjbq2⟩
                  | exact ⟨i+1,by omega,by omega,d1,m,rfl,HI1,HMe,HOjbq2,HXjbq2,HBjbq2⟩
                case measure=>first | (simp [intOf];omega) | simp [intOf]
               ·have Hno:Hid (¬ SoundP p):=zh (HNo.out (d1) (t) HI1.out (rfl:DD d1 i=DD d1 i) Hn2.out (by omega) heq4);have hbq4:(DD (d1) (t) != D+ad)=true:=by simp [heq4]
                go_wp2_with fail
                go_ret;exact ⟨false,rfl,by simpa using Hno.out,HBjbq2.out⟩
             ·have Hno:Hid (¬ SoundP p):=zh (HNo.out (d1) (i+1) HI1.out (rfl:DD d1 i=DD d1 i) Hn1.out (by omega) heq2);have hbq2:(DD (d1) (i+1) != D+ad)=true:=by simp [heq2]
              go_wp2_with fail
              go_ret;exact ⟨false,rfl,by simpa using Hno.out,HB9.out⟩
           ·obtain ⟨hav0,hav1⟩:=right_is _ _ _ _ Hri.out (by omega);obtain ⟨t,rfl⟩:=Int.eq_ofNat_of_zero_le hav0;have hta:t < c.length+1:=by omega
            have htb1:(t:Int) < (c.length:Int)+1:=by omega
            have hj0:=jumps_any 13 (t:Nat);rw [show zn5 ⟨13,(t:Nat)⟩=true from rfl] at hj0;have HJ:=zh hj0;clear hj0;have Hn1:Hid (i+1 ∈ nextsI i c[i]):=zh (by rw [<- Hz.out];simp [nextsI]);have Hn2:Hid (t ∈ nextsI i c[i]):=zh (by rw [<- Hz.out];simp [nextsI]);have Hall:Hid (∀ tq,tq ∈ nextsI i c[i]->tq=i+1∨tq=t):=zh (fun tq h=>by rw [<- Hz.out] at h;simpa [nextsI] using h);have hi6:((i:Int)+1).toNat=i+1:=by omega
            have hi7:(0:Int)<=(i:Int)+1:=by omega
            have hi8:(i:Int)+1 < (c.length:Int)+1:=by omega
            have hi9:i+1 < c.length+1:=by omega
            have hwi:IntKind.i64.wrap ((i:Int)+1)=(i:Int)+1:=IntWalk.i64_in _ (by omega);have etq5:w9.cell? ⟨dg,i+1,none⟩=some (.int .i64 (DD (d1) (i+1))):=HO9.out.cell (i:=i+1) (by rw [List.getElem?_map,DD_at (by rw [HI1.out.len];omega)];rfl);have efq5:=HO9.out.free (i+1);by_cases hnq5:DD (d1) (i+1) < 0
            ·have HOsq5:Hid (OwnV (w9.setCell ⟨dg,i+1,none⟩ (.int .i64 (D+ad))) dg 3 (((d1).set (i+1) (D+ad)).map (Value.int .i64))):=zh (by rw [List.map_set];exact HO9.out.set _ _);have HXsq5:Hid (OwnV (w9.setCell ⟨dg,i+1,none⟩ (.int .i64 (D+ad))) w.heap.size 40 (p.cells (.slice (some ⟨b,off,none⟩) c.length cap))):=zh (HX9.out.grown (zaY _ _ _ _) (by simp;omega));have HYsq5:Hid (OwnV (w9.setCell ⟨dg,i+1,none⟩ (.int .i64 (D+ad))) wr.heap.size 47 [.int .u8 13,.int .i64 (t:Nat)]):=zh (HY9.out.grown (zaY _ _ _ _) (by simp;omega));have HBsq5:=zh (HB9.out.setCell (p:=⟨dg,i+1,none⟩) (by show w.heap.size<=dg;omega) (.int .i64 (D+ad)))
             have HIsq5:Hid (RInv c ((d1).set (i+1) (D+ad))):=zh (by
              have h:=HI1.out.step hil (by rw [(rfl:DD d1 i=DD d1 i)];exact Hge.out) (by rw [(rfl:DD d1 i=DD d1 i)];exact Hfit.out) Hn1.out (by omega) hnq5;rw [(rfl:DD d1 i=DD d1 i),Hbe.out.1] at h
              exact h)
             have Hcsq5:Hid (cntN ((d1).set (i+1) (D+ad))+1=cntN (d1)):=zh (cntN_set _ _ _ (by rw [HI1.out.len];omega) hnq5 hd0)
             have HEiq5:Hid (DD ((d1).set (i+1) (D+ad)) i=DD d1 i):=zh (by
              exact (DD_set_ne (fun e=>by have h1:=(rfl:DD d1 i=DD d1 i);have h2:=Hge.out;rw [e] at hnq5;omega)).trans (rfl:DD d1 i=DD d1 i))
             go_wp2_with fail
             refine (HJ.out _).mono ?_;rintro ejaq5 wjaq5 ⟨rfl,hbjaq5⟩;have HOjaq5:=zh (HOsq5.out.below hbjaq5 (zr _));have HXjaq5:=zh (HXsq5.out.below hbjaq5 (zr _));have HYjaq5:=zh (HYsq5.out.below hbjaq5 (zr _));have HBjaq5:=zh (HBsq5.out.trans (hbjaq5.mono HBsq5.out.size));clear hbjaq5;obtain ⟨u0aq5,u1aq5⟩:=yc2 HYjaq5.out;have etq6:wjaq5.cell? ⟨dg,t,none⟩=some (.int .i64 (DD (d1.set (i+1) (D+ad)) (t))):=HOjaq5.out.cell (i:=t) (by rw [List.getElem?_map,DD_at (by rw [HIsq5.out.len];omega)];rfl);have efq6:=HOjaq5.out.free (t);by_cases hnq6:DD (d1.set (i+1) (D+ad)) (t) < 0
             ·have HOsq6:Hid (OwnV (wjaq5.setCell ⟨dg,t,none⟩ (.int .i64 (D+ad))) dg 3 (((d1.set (i+1) (D+ad)).set (t) (D+ad)).map (Value.int .i64))):=zh (by rw [List.map_set];exact HOjaq5.out.set _ _);have HXsq6:Hid (OwnV (wjaq5.setCell ⟨dg,t,none⟩ (.int .i64 (D+ad))) w.heap.size 40 (p.cells (.slice (some ⟨b,off,none⟩) c.length cap))):=zh (HXjaq5.out.grown (zaY _ _ _ _) (by simp;omega));have HYsq6:Hid (OwnV (wjaq5.setCell ⟨dg,t,none⟩ (.int .i64 (D+ad))) wr.heap.size 47 [.int .u8 13,.int .i64 (t:Nat)]):=zh (HYjaq5.out.grown (zaY _ _ _ _) (by simp;omega));have HBsq6:=zh (HBjaq5.out.setCell (p:=⟨dg,t,none⟩) (by show w.heap.size<=dg;omega) (.int .i64 (D+ad)))
              have HIsq6:Hid (RInv c ((d1.set (i+1) (D+ad)).set (t) (D+ad))):=zh (by
               have h:=HIsq5.out.step hil (by rw [HEiq5.out];exact Hge.out) (by rw [HEiq5.out];exact Hfit.out) Hn2.out (by omega) hnq6;rw [HEiq5.out,Hbe.out.1] at h
               exact h)
              have Hcsq6:Hid (cntN ((d1.set (i+1) (D+ad)).set (t) (D+ad))+1=cntN (d1.set (i+1) (D+ad))):=zh (cntN_set _ _ _ (by rw [HIsq5.out.len];omega) hnq6 hd0)
              have HEiq6:Hid (DD ((d1.set (i+1) (D+ad)).set (t) (D+ad)) i=DD d1 i):=zh (by
               exact (DD_set_ne (fun e=>by have h1:=HEiq5.out;have h2:=Hge.out;rw [e] at hnq6;omega)).trans HEiq5.out)
              have HMe:=zh ((HM1.out.set (j:=i+1) Hcsq5.out).set (j:=i+1) Hcsq6.out);go_wp2_with fail
              go_roundw
              case rel =>
               first
                | exact ⟨i+1,(d1.set (i+1) (D+ad)).set (t) (D+ad),true,by omega,by go_num,rfl,HIsq6,HMe,HOsq6,HXsq6,HBsq6⟩
                | exact ⟨i+1,by omega,by omega,(d1.set (i+1) (D+ad)).set (t) (D+ad),HIsq6,HMe,HOsq6,HXsq6,HBsq6⟩
                | exact ⟨i+1,by omega,by omega,(d1.set (i+1) (D+ad)).set (t) (D+ad),true,rfl,HIsq6,HMe,HOsq6,HXsq6,HBsq6⟩
              case measure=>first | (simp [intOf];omega) | simp [intOf]
             ·by_cases heq6:DD (d1.set (i+1) (D+ad)) (t)=D+ad
              ·rw [heq6] at etq6;have HMe:=zh (HM1.out.set (j:=i+1) Hcsq5.out);go_wp2_with fail
               go_roundw
               case rel =>
                first
                 | exact ⟨i+1,d1.set (i+1) (D+ad),true,by omega,by go_num,rfl,HIsq5,HMe,HOjaq5,HXjaq5,HBjaq5⟩
                 | exact ⟨i+1,by omega,by omega,d1.set (i+1) (D+ad),HIsq5,HMe,HOjaq5,HXjaq5,HBjaq5⟩
                 | exact ⟨i+1,by omega,by omega,d1.set (i+1) (D+ad),true,rfl,HIsq5,HMe,HOjaq5,HXjaq5,HBjaq5⟩
               case measure=>first | (simp [intOf];omega) | simp [intOf]
              ·have Hno:Hid (¬ SoundP p):=zh (HNo.out (d1.set (i+1) (D+ad)) (t) HIsq5.out HEiq5.out Hn2.out (by omega) heq6);have hbq6:(DD (d1.set (i+1) (D+ad)) (t) != D+ad)=true:=by simp [heq6]
               go_wp2_with fail
               go_ret;exact ⟨false,rfl,by simpa using Hno.out,HBjaq5.out⟩
            ·by_cases heq5:DD (d1) (i+1)=D+ad
             ·rw [heq5] at etq5;go_wp2_with fail
              refine (HJ.out _).mono ?_;rintro ejbq5 wjbq5 ⟨rfl,hbjbq5⟩;have HOjbq5:=zh (HO9.out.below hbjbq5 (zr _));have HXjbq5:=zh (HX9.out.below hbjbq5 (zr _));have HYjbq5:=zh (HY9.out.below hbjbq5 (zr _));have HBjbq5:=zh (HB9.out.trans (hbjbq5.mono HB9.out.size));clear hbjbq5;obtain ⟨u0bq5,u1bq5⟩:=yc2 HYjbq5.out;have etq7:wjbq5.cell? ⟨dg,t,none⟩=some (.int .i64 (DD (d1) (t))):=HOjbq5.out.cell (i:=t) (by rw [List.getElem?_map,DD_at (by rw [HI1.out.len];omega)];rfl);have efq7:=HOjbq5.out.free (t);by_cases hnq7:DD (d1) (t) < 0
              ·have HOsq7:Hid (OwnV (wjbq5.setCell ⟨dg,t,none⟩ (.int .i64 (D+ad))) dg 3 (((d1).set (t) (D+ad)).map (Value.int .i64))):=zh (by rw [List.map_set];exact HOjbq5.out.set _ _);have HXsq7:Hid (OwnV (wjbq5.setCell ⟨dg,t,none⟩ (.int .i64 (D+ad))) w.heap.size 40 (p.cells (.slice (some ⟨b,off,none⟩) c.length cap))):=zh (HXjbq5.out.grown (zaY _ _ _ _) (by simp;omega));have HYsq7:Hid (OwnV (wjbq5.setCell ⟨dg,t,none⟩ (.int .i64 (D+ad))) wr.heap.size 47 [.int .u8 13,.int .i64 (t:Nat)]):=zh (HYjbq5.out.grown (zaY _ _ _ _) (by simp;omega));have HBsq7:=zh (HBjbq5.out.setCell (p:=⟨dg,t,none⟩) (by show w.heap.size<=dg;omega) (.int .i64 (D+ad)))
               have HIsq7:Hid (RInv c ((d1).set (t) (D+ad))):=zh (by
                have h:=HI1.out.step hil (by rw [(rfl:DD d1 i=DD d1 i)];exact Hge.out) (by rw [(rfl:DD d1 i=DD d1 i)];exact Hfit.out) Hn2.out (by omega) hnq7;rw [(rfl:DD d1 i=DD d1 i),Hbe.out.1] at h
                exact h)
               have Hcsq7:Hid (cntN ((d1).set (t) (D+ad))+1=cntN (d1)):=zh (cntN_set _ _ _ (by rw [HI1.out.len];omega) hnq7 hd0)
               have HEiq7:Hid (DD ((d1).set (t) (D+ad)) i=DD d1 i):=zh (by
                exact (DD_set_ne (fun e=>by have h1:=(rfl:DD d1 i=DD d1 i);have h2:=Hge.out;rw [e] at hnq7;omega)).trans (rfl:DD d1 i=DD d1 i))
               have HMe:=zh (HM1.out.set (j:=i+1) Hcsq7.out);go_wp2_with fail
               go_roundw
               case rel =>
                first
                 | exact ⟨i+1,d1.set (t) (D+ad),true,by omega,by go_num,rfl,HIsq7,HMe,HOsq7,HXsq7,HBsq7⟩
                 | exact ⟨i+1,by omega,by omega,d1.set (t) (D+ad),HIsq7,HMe,HOsq7,HXsq7,HBsq7⟩
                 | exact ⟨i+1,by omega,by omega,d1.set (t) (D+ad),true,rfl,HIsq7,HMe,HOsq7,HXsq7,HBsq7⟩
               case measure=>first | (simp [intOf];omega) | simp [intOf]
              ·by_cases heq7:DD (d1) (t)=D+ad
               ·rw [heq7] at etq7;have HMe:=zh (HM1.out.next (fun _ _=>⟨Hfit.out,fun tq hto=>by rw [Hbe.out.1];rcases Hall.out tq hto with rfl | rfl;exact heq5;exact heq7⟩));go_wp2_with fail
                go_roundw
                case rel =>
                 first
                  | exact ⟨i+1,d1,m,by omega,by go_num,rfl,HI1,HMe,HOjbq5,HXjbq5,HBjbq5⟩
                  | exact ⟨i+1,by omega,by omega,d1,HI1,HMe,HOjbq5,HXjbq5,HBjbq5⟩
                  | exact ⟨i+1,by omega,by omega,d1,m,rfl,HI1,HMe,HOjbq5,HXjbq5,HBjbq5⟩
                case measure=>first | (simp [intOf];omega) | simp [intOf]
               ·have Hno:Hid (¬ SoundP p):=zh (HNo.out (d1) (t) HI1.out (rfl:DD d1 i=DD d1 i) Hn2.out (by omega) heq7);have hbq7:(DD (d1) (t) != D+ad)=true:=by simp [heq7]
                go_wp2_with fail
                go_ret;exact ⟨false,rfl,by simpa using Hno.out,HBjbq5.out⟩
             ·have Hno:Hid (¬ SoundP p):=zh (HNo.out (d1) (i+1) HI1.out (rfl:DD d1 i=DD d1 i) Hn1.out (by omega) heq5);have hbq5:(DD (d1) (i+1) != D+ad)=true:=by simp [heq5]
              go_wp2_with fail
              go_ret;exact ⟨false,rfl,by simpa using Hno.out,HB9.out⟩
           ·have hj0:=jumps_any op av;rw [show zn5 ⟨op,av⟩=false from by unfold zn5;rw [decide_eq_false_iff_not];show ¬ ((11:Int)<=op/\op<=13);omega] at hj0;have ob1:(op != 11)=true:=by simp [o1]
            have ob2:(op != 14)=true:=by simp [o2]
            have ob3:(op != 15)=true:=by simp [o3]
            have HJ:=zh hj0;clear hj0;have Hn1:Hid (i+1 ∈ nextsI i c[i]):=zh (by rw [<- Hz.out];simp [nextsI,o1,o2,o3,o4,o5]);have Hall:Hid (∀ tq,tq ∈ nextsI i c[i]->tq=i+1):=zh (fun tq h=>by rw [<- Hz.out] at h;simpa [nextsI,o1,o2,o3,o4,o5] using h);have hi6:((i:Int)+1).toNat=i+1:=by omega
            have hi7:(0:Int)<=(i:Int)+1:=by omega
            have hi8:(i:Int)+1 < (c.length:Int)+1:=by omega
            have hi9:i+1 < c.length+1:=by omega
            have hwi:IntKind.i64.wrap ((i:Int)+1)=(i:Int)+1:=IntWalk.i64_in _ (by omega);have etq8:w9.cell? ⟨dg,i+1,none⟩=some (.int .i64 (DD (d1) (i+1))):=HO9.out.cell (i:=i+1) (by rw [List.getElem?_map,DD_at (by rw [HI1.out.len];omega)];rfl);have efq8:=HO9.out.free (i+1);by_cases hnq8:DD (d1) (i+1) < 0
            ·have HOsq8:Hid (OwnV (w9.setCell ⟨dg,i+1,none⟩ (.int .i64 (D+ad))) dg 3 (((d1).set (i+1) (D+ad)).map (Value.int .i64))):=zh (by rw [List.map_set];exact HO9.out.set _ _);have HXsq8:Hid (OwnV (w9.setCell ⟨dg,i+1,none⟩ (.int .i64 (D+ad))) w.heap.size 40 (p.cells (.slice (some ⟨b,off,none⟩) c.length cap))):=zh (HX9.out.grown (zaY _ _ _ _) (by simp;omega));have HYsq8:Hid (OwnV (w9.setCell ⟨dg,i+1,none⟩ (.int .i64 (D+ad))) wr.heap.size 47 [.int .u8 op,.int .i64 av]):=zh (HY9.out.grown (zaY _ _ _ _) (by simp;omega));have HBsq8:=zh (HB9.out.setCell (p:=⟨dg,i+1,none⟩) (by show w.heap.size<=dg;omega) (.int .i64 (D+ad)))
             have HIsq8:Hid (RInv c ((d1).set (i+1) (D+ad))):=zh (by
              have h:=HI1.out.step hil (by rw [(rfl:DD d1 i=DD d1 i)];exact Hge.out) (by rw [(rfl:DD d1 i=DD d1 i)];exact Hfit.out) Hn1.out (by omega) hnq8;rw [(rfl:DD d1 i=DD d1 i),Hbe.out.1] at h
              exact h)
             have Hcsq8:Hid (cntN ((d1).set (i+1) (D+ad))+1=cntN (d1)):=zh (cntN_set _ _ _ (by rw [HI1.out.len];omega) hnq8 hd0)
             have HEiq8:Hid (DD ((d1).set (i+1) (D+ad)) i=DD d1 i):=zh (by
              exact (DD_set_ne (fun e=>by have h1:=(rfl:DD d1 i=DD d1 i);have h2:=Hge.out;rw [e] at hnq8;omega)).trans (rfl:DD d1 i=DD d1 i))
             go_wp2_with fail
             refine (HJ.out _).mono ?_;rintro ejaq8 wjaq8 ⟨rfl,hbjaq8⟩;have HOjaq8:=zh (HOsq8.out.below hbjaq8 (zr _));have HXjaq8:=zh (HXsq8.out.below hbjaq8 (zr _));have HYjaq8:=zh (HYsq8.out.below hbjaq8 (zr _));have HBjaq8:=zh (HBsq8.out.trans (hbjaq8.mono HBsq8.out.size));clear hbjaq8;obtain ⟨u0aq8,u1aq8⟩:=yc2 HYjaq8.out;have HMe:=zh (HM1.out.set (j:=i+1) Hcsq8.out);go_wp2_with fail
             go_roundw
             case rel =>
              first
               | exact ⟨i+1,d1.set (i+1) (D+ad),true,by omega,by go_num,rfl,HIsq8,HMe,HOjaq8,HXjaq8,HBjaq8⟩
               | exact ⟨i+1,by omega,by omega,d1.set (i+1) (D+ad),HIsq8,HMe,HOjaq8,HXjaq8,HBjaq8⟩
               | exact ⟨i+1,by omega,by omega,d1.set (i+1) (D+ad),true,rfl,HIsq8,HMe,HOjaq8,HXjaq8,HBjaq8⟩
             case measure=>first | (simp [intOf];omega) | simp [intOf]
            ·by_cases heq8:DD (d1) (i+1)=D+ad
             ·rw [heq8] at etq8;go_wp2_with fail
              refine (HJ.out _).mono ?_;rintro ejbq8 wjbq8 ⟨rfl,hbjbq8⟩;have HOjbq8:=zh (HO9.out.below hbjbq8 (zr _));have HXjbq8:=zh (HX9.out.below hbjbq8 (zr _));have HYjbq8:=zh (HY9.out.below hbjbq8 (zr _));have HBjbq8:=zh (HB9.out.trans (hbjbq8.mono HB9.out.size));clear hbjbq8;obtain ⟨u0bq8,u1bq8⟩:=yc2 HYjbq8.out;have HMe:=zh (HM1.out.next (fun _ _=>⟨Hfit.out,fun tq hto=>by rw [Hall.out tq hto,Hbe.out.1];exact heq8⟩));go_wp2_with fail
              go_roundw
              case rel =>
               first
                | exact ⟨i+1,d1,m,by omega,by go_num,rfl,HI1,HMe,HOjbq8,HXjbq8,HBjbq8⟩
                | exact ⟨i+1,by omega,by omega,d1,HI1,HMe,HOjbq8,HXjbq8,HBjbq8⟩
                | exact ⟨i+1,by omega,by omega,d1,m,rfl,HI1,HMe,HOjbq8,HXjbq8,HBjbq8⟩
              case measure=>first | (simp [intOf];omega) | simp [intOf]
             ·have Hno:Hid (¬ SoundP p):=zh (HNo.out (d1) (i+1) HI1.out (rfl:DD d1 i=DD d1 i) Hn1.out (by omega) heq8);have hbq8:(DD (d1) (i+1) != D+ad)=true:=by simp [heq8]
              go_wp2_with fail
              go_ret;exact ⟨false,rfl,by simpa using Hno.out,HB9.out⟩
          ·have hii:¬ (i:Int) < (c.length:Int):=by omega
           have HDn:Hid (m=false->∀ j,j < c.length->Closed c (DD d1) j):=zh fun hm j hj=>(HM1.out.1 hm).2 j (by omega)
           have hdec:(if m=true then cntN d1+1 else 0) < cntN ds+1:=by
            cases m with
            | true=>have:=HM1.out.2 rfl;rw [yP rfl];omega
            | false=>rw [yN (by decide)];omega
           go_wp2_with fail
           go_roundg (if m=true then cntN d1+1 else 0)
           case measure=>first | exact hdec | (rw [yP rfl];exact hdec)
           case rel=>exact ⟨d1,m,rfl,rfl,HI1,HDn,HO1,HX1,HB1⟩
end Go.Proofs.Ytdeneckmoejcfaa

/- The program's Sound, walked. -/
import Derived.Test.YtdeneckmoejcfaaPMaskZs
import Derived.Test.YtdeneckmoejcfaaPSoundAZs
import Derived.Test.YtdeneckmoejcfaaTransYZs
import Derived.Deep.DeepCutAuto
set_option linter.unusedSimpArgs false
set_option linter.unusedVariables false
set_option maxRecDepth 100000
set_option maxHeartbeats 4000000
namespace Go.Proofs.Ytdeneckmoejcfaa
open Go.RowKit

theorem bcellS {W w1:World} (hb:Below W.heap.size W w1):(∀ b o,b < W.heap.size->w1.cell? ⟨b,o,none⟩=W.cell? ⟨b,o,none⟩)/\(∀ b o,b < W.heap.size->w1.frozen? ⟨b,o,none⟩=W.frozen? ⟨b,o,none⟩):=
 ⟨fun b o h=>hb.cell (p:=⟨b,o,none⟩) h,fun b o h=>hb.frozen (p:=⟨b,o,none⟩) h⟩
theorem no_iff {A:Prop} (h:¬ A):(false=true ↔ A):=⟨fun e=>(by cases e),fun a=>absurd a h⟩
theorem takes_nine (op av:Int):(op=9/\10<=av->takesI ⟨op,av⟩=2)/\(¬ (op=9/\10<=av)->takesI ⟨op,av⟩=takesI ⟨op,0⟩):=by
 have e:takesI ⟨op,av⟩=if op=5 then 2 else if op=9 then (if 10<=av then 2 else 1) else if op=3∨op=4∨op=8∨op=10∨op=12∨op=13 then 1 else 0:=rfl
 have e2:takesI ⟨op,0⟩=if op=5 then 2 else if op=9 then (if (10:Int)<=0 then 2 else 1) else if op=3∨op=4∨op=8∨op=10∨op=12∨op=13 then 1 else 0:=rfl
 rw [e,e2];constructor
 ·rintro ⟨rfl,h⟩;rw [yN (by decide),yP rfl,yP h]
 ·intro h;by_cases h9:op=9
  ·subst h9;rw [yN (by decide),yP rfl,yN (fun h10=>h ⟨rfl,h10⟩)];rfl
  ·rw [yN h9,yN h9]
def SoundE (p : ProgS) (w : World) (e : Ending) (w' : World) : Prop := ∃ b : Bool, e = .returned (.bool b) /\ (b = true ↔ SoundP p) /\ Below w.heap.size w w'
theorem info_pint:(Try.prog.info? 3).map (fun i=>(i.zero,i.size,i.bytes))=some (some (.int .i64 0),1,8):=by kernel_rfl
theorem any_right (p:ProgS):(p.code.any fun z=>!decide (rightI p.code.length p.locals z))=false ↔ ∀ i ∈ p.code,rightI p.code.length p.locals i:=by
 rw [List.any_eq_false];simp
theorem psound_any (p:ProgS) (v:Value) (w:World) (hC:SlC w p.code v) (hl:p.code.length<=1000000) :
  Calls Try.prog 27 #[zow p v] w (SoundE p w):=by
 obtain ⟨ac,cap,rfl,hcap1,hcap2⟩:=Sl.form hC;obtain ⟨W1,hW1,hX1,hb1⟩:∃ W1,W1=w.alloc (.cells #[.slice ac p.code.length cap,.int .i64 p.locals,.int .u32 (w32 p.reads),.int .u32 (w32 p.writes)] 29)/\OwnV W1 w.heap.size 29 (p.cells (.slice ac p.code.length cap))/\Below w.heap.size w W1:=⟨_,rfl,OwnV.new _ _ _,(yR _ _).alloc (zr _) _⟩;have hs1:=hb1.size;have hC1:=hC.below hb1;have HM:=zh (zrq p.code _ W1 hC1 hl);have HC:=zh hC;have HX1:=zh hX1;have HW1:=zh hW1;have Hb1:=zh hb1;have x0:=hX1.cell (i:=0) (v:=.slice ac p.code.length cap) rfl;unfold zow;clear hX1 hb1 hC1 hC hW1;go_enter Try.func27,Try.ntmps27
 go_upto_region 1 with (fail)
 rw [<- HW1.out];go_wp2_with fail
 refine HM.out.mono ?_;rintro e2 w2 ⟨rfl,hb2⟩;have HX2:=zh (HX1.out.below hb2 (zr _));have Hb2:=zh (Hb1.out.trans (hb2.mono hs1));have hs2:=Hb2.out.size;have HC2:=zh (HC.out.below Hb2.out);have x0:=HX2.out.cell (i:=0) (v:=.slice ac p.code.length cap) rfl;have x1:=HX2.out.cell (i:=1) (v:=.int .i64 p.locals) rfl;have x2:=HX2.out.cell (i:=2) (v:=.int .u32 (w32 p.reads)) rfl;have x3:=HX2.out.cell (i:=3) (v:=.int .u32 (w32 p.writes)) rfl;clear hb2 HX1 HM Hb1;by_cases k1:4000 < p.code.length
 ·have k1i:(p.code.length:Int) > 4000:=by omega
  have Hno:Hid (¬ SoundP p):=zh fun h=>by have:=h.basic.len;omega
  clear k1;go_wp2_with fail
  go_ret;exact ⟨false,rfl,by simpa using Hno.out,Hb2.out⟩
 have k1i:¬ (p.code.length:Int) > 4000:=by omega
 have k1j:(p.code.length:Int)<=4000:=by omega
 by_cases k2:p.locals < 0
 ·have Hno:Hid (¬ SoundP p):=zh fun h=>by have:=h.basic.loc;omega
  go_wp2_with fail
  go_ret;exact ⟨false,rfl,by simpa using Hno.out,Hb2.out⟩
 have k2i:0<=p.locals:=by omega
 by_cases k3:p.locals > 32
 ·have Hno:Hid (¬ SoundP p):=zh fun h=>by have:=h.basic.loc;omega
  go_wp2_with fail
  go_ret;exact ⟨false,rfl,by simpa using Hno.out,Hb2.out⟩
 have k3i:p.locals<=32:=by omega
 have HA:=zh (containsI_any p ac cap w.heap.size w2 HC2.out HX2.out ⟨k2i,k3i⟩ hl);obtain ⟨q,hq⟩:∃ q,(p.code.any fun z=>!decide (rightI p.code.length p.locals z))=q:=⟨_,rfl⟩;have Hq:=zh hq;rw [hq] at HA;clear hq;obtain ⟨r4,hr4⟩:∃ r,(w32 (znW 4 p.code) != w32 p.reads)=r:=⟨_,rfl⟩;obtain ⟨r5,hr5⟩:∃ r,(w32 (znW 5 p.code) != w32 p.writes)=r:=⟨_,rfl⟩;have Hr4:Hid (r4=false ↔ znW 4 p.code=p.reads):=zh (by rw [<- hr4,bne_eq_false_iff_eq];unfold w32;constructor <;> intro h;exact BitVec.eq_of_toNat_eq (by omega);rw [h]);have Hr5:Hid (r5=false ↔ znW 5 p.code=p.writes):=zh (by rw [<- hr5,bne_eq_false_iff_eq];unfold w32;constructor <;> intro h;exact BitVec.eq_of_toNat_eq (by omega);rw [h]);clear k1
 cases q with
 | true =>
  have Hno:Hid (¬ SoundP p):=zh fun h=>by have:=(any_right p).2 h.basic.right;rw [Hq.out] at this;cases this
  go_wp2_with fail
  refine HA.out.mono ?_;rintro e3 w3 ⟨rfl,hb3⟩;have Hb3:=zh (Hb2.out.trans (hb3.mono hs2));clear hb3;go_wp2_with fail
  go_ret
  exact ⟨false,rfl,by simpa using Hno.out,Hb3.out⟩
 | false =>
  go_wp2_with fail
  refine HA.out.mono ?_;rintro e3 w3 ⟨rfl,hb3⟩;have HX3:=zh (HX2.out.below hb3 (zr _));have Hb3:=zh (Hb2.out.trans (hb3.mono hs2));have hs3:=Hb3.out.size;have HC3:=zh (HC.out.below Hb3.out);have x0:=HX3.out.cell (i:=0) (v:=.slice ac p.code.length cap) rfl;have x2:=HX3.out.cell (i:=2) (v:=.int .u32 (w32 p.reads)) rfl;have x3:=HX3.out.cell (i:=3) (v:=.int .u32 (w32 p.writes)) rfl;clear hb3 HX2 HA x1
  cases r4 with
  | true =>
   have Hno:Hid (¬ SoundP p):=zh fun h=>by have:=Hr4.out.2 h.basic.reads;cases this
   go_wp2_with fail
   go_ret
   exact ⟨false,rfl,by simpa using Hno.out,Hb3.out⟩
  | false =>
   cases r5 with
   | true =>
    have Hno:Hid (¬ SoundP p):=zh fun h=>by have:=Hr5.out.2 h.basic.writes;cases this
    go_wp2_with fail
    go_ret
    exact ⟨false,rfl,by simpa using Hno.out,Hb3.out⟩
   | false =>
    have Hbas:Hid (Basic p):=zh ⟨by omega,⟨k2i,k3i⟩,(any_right p).1 Hq.out,Hr4.out.1 rfl,Hr5.out.1 rfl⟩;have Hfl:Hid (∀ b:Bool,(b=true ↔ Flow p.code)->(b=true ↔ SoundP p)):=zh fun b h=>h.trans ⟨fun hf=>⟨Hbas.out,hf⟩,fun hs=>hs.flow⟩
    clear Hr4 Hr5 Hq;go_upto_region 5 with (fail)
    clear hr4 hr5 x2 x3 k2 k3;obtain ⟨n,hn⟩:∃ n,n=p.code.length:=⟨_,rfl⟩;obtain ⟨i0,hi,hz0,hz1,hz2⟩:=info_parts info_pint
    have hmk:∀ u:World,(Instr.makeSlice 48 (.int .i64 ((p.code.length:Int)+1)) (.int .i64 ((p.code.length:Int)+1))).run Try.prog u =
      .ok (.slice (some ⟨u.heap.size,0,none⟩) (p.code.length+1) (p.code.length+1)) (u.alloc (.cells (List.replicate (p.code.length+1) (Value.int .i64 0)).toArray 3)):=fun u=>by
     have h:=run_make (P:=Try.prog) u 48 3 i0 (.int .i64 0) Try.underlying48 hi hz0 .i64 .i64 ((p.code.length:Int)+1) ((p.code.length:Int)+1) (by omega) (Int.le_refl _) (by rw [hz2];omega) (by omega);rw [hz1,Nat.mul_one,made_one _ _ rfl] at h;simpa using h
    obtain ⟨dg,hdg⟩:∃ dg,dg=w3.heap.size:=⟨_,rfl⟩;obtain ⟨W5,hW5,hO5,hb5⟩:∃ W5,W5=w3.alloc (.cells (Array.replicate (p.code.length+1) (Value.int .i64 0)) 3)/\OwnV W5 dg 3 (List.replicate (p.code.length+1) (Value.int .i64 0))/\Below w3.heap.size w3 W5:=⟨_,rfl,by rw [hdg];have:=OwnV.new w3 3 (List.replicate (p.code.length+1) (Value.int .i64 0));rwa [List.toArray_replicate] at this,(yR _ _).alloc (zr _) _⟩;obtain ⟨W6,hW6,hO6,hb6⟩:∃ W6,W6=W5.setCell ⟨dg,0,none⟩ (.int .i64 1)/\OwnV W6 dg 3 (((List.replicate (p.code.length+1) (0:Int)).set 0 1).map (Value.int .i64))/\Below w3.heap.size w3 W6:=⟨_,rfl,by rw [List.map_set,List.map_replicate];exact hO5.set 0 _,hb5.setCell (by show w3.heap.size<=dg;omega) _⟩;obtain ⟨W7,hW7,hR7,hb7⟩:∃ W7,W7=W6.alloc (.cells #[.int .i64 0] 3)/\W7.ownsRow (dg+1) 3 1 (.slice (some ⟨W6.heap.size,0,none⟩) 1 1) 1 [.int .i64 0]/\Below W6.heap.size W6 W7:=⟨_,rfl,(OwnV.new W6 3 [.int .i64 0]).own (by have:=hO6.lt;omega) rfl rfl (by decide),(yR _ _).alloc (zr _) _⟩;have hO7:=hO6.below hb7 (zr _);have hX7:=(HX3.out.below hb6 (zr _)).below hb7 (zr _);have hB7:=Hb3.out.trans ((hb6.trans (hb7.mono hb6.size)).mono hs3);have HO7:=zh hO7;have HR7:=zh hR7;have HX7:=zh hX7;have HB7:=zh hB7;have HW5:=zh hW5;have HW6:=zh hW6;have HW7:=zh hW7;have d5:=hO5.cell (i:=0) (v:=.int .i64 0) (by simp);have f5:=hO5.free 0;have hwd:w.heap.size < dg:=by have:=HX3.out.lt;omega
    have hdi:=hdg.symm;have Hdg:=zh hdg;clear hdg hW5 hW6 hW7 hO5 hO6 hb5 hb6 hb7 hR7 hO7 hX7 hB7 hi hz0 hz1 hz2 hdi hn;go_upto_region 6 with (fail)
    rw [<- Hdg.out,<- HW5.out];clear hmk x0;go_upto_region 7 with (fail)
    rw [<- HW6.out];go_wp2_with fail
    rw [<- HW7.out];have HF:=zh (fun W (hb:Below w.heap.size w W)=>HC.out.below hb);have Hinit:=zh (WInv.init p.code);have Hrt:=zh Hbas.out.right;clear HC HC2 HC3 HX3 Hb2 Hb3 HW1 HW5 HW6 HW7 d5 f5 Hbas
    generalize p.code=c at *
    go_loopg [2,7,8,9,10,11,13,61,62,63,64,65,66,67,68,69,70,71,72,73,74,75,76,77,78,79,80,81,82,83,84,85,86,87,88,89,90,91,92,93,94,95,96,97,98,99,100,101,102,103,104,105,106,107,108,109,110,111,112,113,114,115,116,117,118,119,120,121,122,123,124,125,126,127,128,129,130,131,132,133,134,135,136,137,138,139,140,141,142,143,144,145] (2 * ((List.replicate (c.length+1) (0:Int)).set 0 1).count 0+1) (fun g _ t7 _ _ _ _ _ _ _ _ _ _ _ _ _ _ _ _ _ _ _ _ _ _ _ _ _ _ _ _ _ _ _ _ _ _ _ _ _ _ _ _ _ _ _ _ _ _ _ _ _ _ _ _ _ _ _ _ _ _ _ _ _ _ _ _ _ _ _ _ _ _ _ _ _ _ _ _ _ _ _ _ _ _ _ _ _ _ _ _ _ _ wr=>∃ (P:List Int) (ts:List Nat),g=2 * P.count 0+ts.length/\Hid (WInv c P ts (fun _=>False))/\Hid (OwnV wr dg 3 (P.map (Value.int .i64)))/\Hid (wr.ownsRow (dg+1) 3 1 t7 ts.length (ts.map fun t=>Value.int .i64 (t:Nat)))/\Hid (OwnV wr w.heap.size 29 [.slice ac c.length cap,.int .i64 p.locals,.int .u32 (w32 p.reads),.int .u32 (w32 p.writes)])/\Hid (Below w.heap.size w wr)/\Hid (2 * P.count 0+ts.length<=20000))
    case atStart=>exact ⟨_,[0],rfl,zh Hinit.out,zh HO7.out,zh HR7.out,zh HX7.out,zh HB7.out,zh (by have h:=List.count_le_length (a:=(0:Int)) (l:=(List.replicate (c.length+1) (0:Int)).set 0 1);rw [List.length_set,List.length_replicate] at h;simp only [List.length_singleton];omega)⟩
    case round =>
     clear HO7 HR7 HX7 HB7 Hinit;obtain ⟨P,ts,rfl,HW,HO,HR,HX,HB,HG⟩:=hrel;have x0:=HX.out.cell (i:=0) rfl;have hsr:=HB.out.size;rcases List.eq_nil_or_concat ts with rfl | ⟨ts,t,rfl⟩
     ·obtain ⟨b7,cap7,rfl,_,_⟩:=Sl.form (Sl.of_own HR.out);have hz:=HW.out.val c.length;obtain ⟨z,hzz⟩:∃ z,P.getD c.length 0=z:=⟨_,rfl⟩;have Hres:=zh (HW.out.result);rw [hzz] at Hres hz;have hpl:=HW.out.len;have q0:=HO.out.cell (i:=c.length) (v:=.int .i64 z) (by rw [List.getElem?_map,<- hzz,List.getD_eq_getElem?_getD,yD (by omega)];rfl);have hlt:c.length < c.length+1:=by omega
      clear hzz hpl HO HR;go_wp2_with fail
      go_ret;exact ⟨decide (z<=1),by first | rfl | exact retb rfl,Hfl.out _ (by rw [yQ];exact Hres.out.symm),HB.out⟩
     ·rw [List.concat_eq_append] at HW HR HG;have hr:=HR.out;rw [yA,List.map_append,List.length_singleton] at hr;obtain ⟨gb,cap7,rfl⟩:=ownsRow_succ hr;obtain ⟨htn,ht0⟩:=HW.out.todos t (by simp)
      have hcap:ts.length+1<=cap7/\cap7<=9223372036854775807:=by
       obtain ⟨a,cp,e,h1,h2⟩:=Sl.form (Sl.of_own hr);cases e;exact ⟨h1,h2⟩
      have r0:wr.cell? ⟨gb,ts.length,none⟩=some (.int .i64 (t:Nat)):=by
       rw [hr.cellAt _ (by omega),List.getElem?_append_right (by simp)];simp
      have HR2:=zh (zrN hr (n:=ts.length) (by omega));rw [List.take_left' (by simp)] at HR2;have HW2:=zh HW.out.pop;have hgl:(ts++[t]).length=ts.length+1:=by simp
      have hg2:2 * P.count 0+ts.length<=20000:=by have:=HG.out;rw [hgl] at this;omega
      have hcap2:(cap7:Int)<=9223372036854775807:=by omega
      have hcap3:(ts.length:Int)<=(cap7:Int):=by omega
      obtain ⟨hcap1,-⟩:=hcap;clear hr HR;by_cases hte:t=c.length
      ·have hte2:((t:Int) == (c.length:Int))=true:=by rw [hte];simp
       have HW3:Hid (WInv c P ts (fun _=>False)):=zh (WInv.last (by rw [<- hte];exact HW2.out));clear hte HW2;go_wp2_with fail
       go_roundg (2 * P.count 0+ts.length)
       case measure=>first | omega | (simp only [List.length_concat];omega) | (rw [hgl];omega)
       case rel=>exact ⟨P,ts,rfl,HW3,HO,HR2,HX,HB,zh hg2⟩
      ·have hte2:((t:Int) == (c.length:Int))=false:=by simp;omega
       have htl:t < c.length:=by omega
       go_upto_region 12 with (fail)
       obtain ⟨cb,coff,rfl,hcw,c0,c1⟩:=(HF.out wr HB.out).at htl;have hpl:=HW2.out.len;have hz:=HW2.out.val t;have Hrch:=zh (HW2.out.reach t ht0);have Hri:=zh (Hrt.out c[t] (List.getElem_mem htl));obtain ⟨z,hzz⟩:∃ z,P.getD t 0=z:=⟨_,rfl⟩;have Hzz:=zh hzz;have q0:=HO.out.cell (i:=t) (v:=.int .i64 z) (by rw [List.getElem?_map,<- hzz,List.getD_eq_getElem?_getD,yD (by omega)];rfl);rw [hzz] at hz Hrch ht0;have hzp:1<=z:=by omega
       obtain ⟨zi,hzi⟩:∃ zi,zi=c[t]:=⟨_,rfl⟩;rw [<- hzi] at c0 c1 Hri;have Hzi:=zh hzi;obtain ⟨op,av⟩:=zi;clear r0 hpl hzz hzi hte hte2 ht0;have htd:t < c.length+1:=by omega
       have htdi:(t:Int) < (c.length:Int)+1:=by omega
       have hti:(t:Int) < (c.length:Int):=by omega
       have hwl:w.heap.size < wr.heap.size:=HX.out.lt;have hdl:dg < wr.heap.size:=HO.out.lt;have hwz:IntKind.i64.wrap (z - 1)=z - 1:=IntWalk.i64_in _ (by omega);go_region_held3 (fun w'=>w'.cell? ⟨w.heap.size,0,none⟩=some (.slice (some ⟨cb,coff,none⟩) c.length cap)/\w'.cell? ⟨cb,coff+t * 2,none⟩=some (.int .u8 op)/\w'.cell? ⟨cb,coff+t * 2+1,none⟩=some (.int .i64 av)/\w'.cell? ⟨dg,t,none⟩=some (.int .i64 z)) (go_keep) (fail)
       rename_i hHeld
       clear hHeld hwz;go_upto_region 13 with (fail)
       obtain ⟨ib,hib⟩:∃ ib,ib=wr.heap.size:=⟨_,rfl⟩;obtain ⟨W8,hW8,hX8,hb8⟩:∃ W8,W8=(wr.alloc (.cells #[.int .u8 op,.int .i64 av] 35)).drew/\OwnV W8 ib 35 [.int .u8 op,.int .i64 av]/\Below wr.heap.size wr W8:=⟨_,rfl,by rw [hib];exact (OwnV.new _ _ _).drew,((yR _ _).alloc (zr _) _).drew⟩;rw [<- hW8,<- hib];have HX8:=zh hX8;have Hb8:=zh hb8;have y0:=hX8.cell (i:=0) rfl;have hs8:=hb8.size;have hibw:dg < ib:=by omega
       have Hib:=zh hib;have hop:=right_op Hri.out;have hibl:ib < W8.heap.size:=hX8.lt;have hix:=eff_index op hop;have HEf:=zh effects_any
       generalize effV=EV at *
       clear hW8 hX8 hb8 hib q0 c0 c1;go_cut [11] (fun s11 wx=>∃ fb,s11=.pointer (some ⟨fb,0,none⟩)/\OwnV wx fb 85 [.int .i64 (takesI ⟨op,0⟩),.int .i64 (addsI ⟨op,0⟩)]/\W8.heap.size<=fb/\Below W8.heap.size W8 wx)
       case first =>
        have hz0:=OwnV.new W8 85 [.int .i64 0,.int .i64 0];have Hz0:=zh hz0;have hz1:OwnV (W8.drew.alloc (.cells #[.int .i64 0,.int .i64 0] 85)) W8.heap.size 85 [.int .i64 0,.int .i64 0]:=OwnV.new W8.drew _ _;have Hz1:=zh hz1;clear hz1;clear hz0;go_region_held3 (fun w'=>w'.cell? ⟨ib,0,none⟩=some (.int .u8 op)) (first | exact y0 | assumption | exact ((((yR W8.heap.size _).setCell (p:=⟨W8.heap.size,0,none⟩) (zr _) _).setCell (p:=⟨W8.heap.size,1,none⟩) (zr _) _).cell (p:=⟨ib,0,none⟩) hibl).trans (by assumption) | go_keep) (first | (go_at_call 47;refine (HEf.out _).mono ?_;rintro e1 w9 ⟨rfl,hb9⟩;obtain ⟨hc9,hf9⟩:=bcellS hb9;have y9:w9.cell? ⟨ib,0,none⟩=some (.int .u8 op):=(by first | exact (hc9 _ _ hibl).trans y0 | exact (hc9 _ _ (by simp;omega)).trans (Below.keep ((yR W8.heap.size W8).alloc (zr _) _) y0))) | fail)
        all_goals
         rename_i hHeld
         clear hHeld;go_wp2_with fail
         go_meet
         first
         | exact ⟨_,rfl,(((Hz0.out.below hb9 (zr _)).set 0 _).set 1 _).drew,zr _,((((((yR _ W8).alloc (zr _) _).trans (hb9.mono (by simp))).setCell (p:=⟨W8.heap.size,0,none⟩) (zr _) _).setCell (p:=⟨W8.heap.size,1,none⟩) (zr _) _).drew)⟩
         | exact ⟨_,rfl,OwnV.new w9 85 [.int .i64 (takesI ⟨op,0⟩),.int .i64 (addsI ⟨op,0⟩)],hb9.size,((yR W8.heap.size W8).drew.trans hb9).alloc hb9.size _⟩
         | exact ⟨_,rfl,(OwnV.new w9 85 [.int .i64 (takesI ⟨op,0⟩),.int .i64 (addsI ⟨op,0⟩)]).drew,hb9.size,(hb9.alloc hb9.size _).drew⟩
         | exact ⟨_,rfl,(((Hz1.out.below hb9 (zr _)).set 0 _).set 1 _),zr _,((((((yR _ W8).drew.alloc (zr _) _).trans (hb9.mono (by simp))).setCell (p:=⟨W8.heap.size,0,none⟩) (zr _) _).setCell (p:=⟨W8.heap.size,1,none⟩) (zr _) _))⟩
         | exact ⟨_,rfl,(((Hz1.out.below hb9 (zr _)).set 0 _).set 1 _),zr _,((((((yR _ W8).alloc (zr _) _).drew.trans (hb9.mono (by simp))).setCell (p:=⟨W8.heap.size,0,none⟩) (zr _) _).setCell (p:=⟨W8.heap.size,1,none⟩) (zr _) _))⟩
       case rest =>
        obtain ⟨fb,rfl,hE,hfb,hb10⟩:=hcut;have hdw:wr.heap.size<=W8.heap.size:=hs8;have HXc:=zh ((HX.out.below Hb8.out (zr _)).below hb10 (zr _));have HOc:=zh ((HO.out.below Hb8.out (zr _)).below hb10 (zr _));have HRc:=zh (zbu (zbu HR2.out Hb8.out (zr _)) hb10 (zr _));have HIc:=zh (HX8.out.below hb10 (zr _));have HBc:=zh (HB.out.trans ((Hb8.out.trans (hb10.mono hs8)).mono hsr));have hgbl:∀ g,(Value.slice (some ⟨gb,0,none⟩) ts.length cap7).ownBlock=some g->g < wr.heap.size:=fun g hg=>(HR2.out.lt g hg).2
        have HE:=zh hE;have Hgb:=zh hgbl;clear HX HO HR2 HB HX8 hE hgbl Hib x0 y0 hix HEf;obtain ⟨i0,i1⟩:=yc2 HIc.out;have e0:=HE.out.cell (i:=0) rfl;have ef:=HE.out.free;have hsc:=HBc.out.size;have hfl:fb < wc.heap.size:=HE.out.lt;obtain ⟨m9,hm9⟩:∃ m:Bool,(op == 9)=m:=⟨_,rfl⟩;obtain ⟨m10,hm10⟩:∃ m:Bool,decide (av >= 10)=m:=⟨_,rfl⟩;have H9:Hid (m9=true ↔ op=9):=zh (by rw [<- hm9,beq_iff_eq]);have H10:Hid (m10=true ↔ 10<=av):=zh (by rw [<- hm10,yQ]);have Htk:Hid ((m9=true/\m10=true->takesI ⟨op,av⟩=2)/\(¬ (m9=true/\m10=true)->takesI ⟨op,av⟩=takesI ⟨op,0⟩)):=zh (by rw [H9.out,H10.out];exact takes_nine op av);obtain ⟨tk,htk⟩:∃ tk,tk=takesI ⟨op,av⟩:=⟨_,rfl⟩;obtain ⟨ad,had⟩:∃ ad,ad=addsI ⟨op,0⟩:=⟨_,rfl⟩;have htk2:=takesI_pos ⟨op,av⟩;have had2:=addsI_pos ⟨op,0⟩;have Had:Hid (addsI ⟨op,av⟩=ad):=zh (by rw [had];rfl);rw [<- htk] at htk2 Htk;rw [<- had] at had2;have Htv:=zh htk;rw [<- had] at HE
        generalize takesI ⟨op,0⟩=tk0 at *
        clear hop hb10 htk had;have hfi:fb≠ib:=by omega
        obtain ⟨wb,rfl⟩:∃ wb:World,wb=wc:=⟨_,rfl⟩;go_upto_region 14 with (fail)
        go_cut [101] (fun s101 wx=>s101=.bool (m9 && m10)/\wx=wb)
        case first =>
         cases m9 <;> cases m10
         all_goals
          go_wp2_with fail
          go_meet;exact ⟨rfl,rfl⟩
        case rest =>
         obtain ⟨rfl,rfl⟩:=hcut;obtain ⟨bb,hbb⟩:∃ bb:Bool,(m9 && m10)=bb:=⟨_,rfl⟩;have Hbb:Hid ((bb=true->tk=2)/\(bb=false->tk=tk0)):=zh ⟨fun h=>Htk.out.1 (by rw [<- hbb,yC] at h;exact h),fun h=>Htk.out.2 (by rw [<- hbb] at h;intro h2;rw [h2.1,h2.2] at h;cases h)⟩;rw [hbb];clear hbb hm9 hm10 H9 H10 Htk;go_upto_if 101 with (fail)
         go_cut [] (fun wx=>OwnV wx w.heap.size 29 [.slice (some ⟨cb,coff,none⟩) c.length cap,.int .i64 p.locals,.int .u32 (w32 p.reads),.int .u32 (w32 p.writes)]/\OwnV wx dg 3 (P.map (Value.int .i64))/\wx.ownsRow (dg+1) 3 1 (.slice (some ⟨gb,0,none⟩) ts.length cap7) ts.length (ts.map fun t=>Value.int .i64 (t:Nat))/\OwnV wx ib 35 [.int .u8 op,.int .i64 av]/\OwnV wx fb 85 [.int .i64 tk,.int .i64 ad]/\Below w.heap.size w wx/\wr.heap.size<=wx.heap.size)
         case first =>
          cases bb
          ·have htq:tk=tk0:=Hbb.out.2 rfl;go_wp2_with fail
           go_meet;exact ⟨HXc.out,HOc.out,HRc.out,HIc.out,by rw [htq];exact HE.out,HBc.out,by omega⟩
          ·have htq:tk=2:=Hbb.out.1 rfl;go_wp2_with fail
           go_meet;exact ⟨HXc.out.set_ne (by omega) _,HOc.out.set_ne (by omega) _,zdB HRc.out (fun g hg e=>by have:=Hgb.out g hg;omega) _ _,HIc.out.set_ne (by omega) _,by rw [htq];exact HE.out.set 0 _,HBc.out.setCell (by show w.heap.size<=fb;omega) _,by simp;omega⟩
         case rest =>
         obtain ⟨hXd,hOd,hRd,hId,hEd,hBd,hsd⟩:=hcut;obtain ⟨wd,hwd⟩:∃ wd:World,wd=wc:=⟨_,rfl⟩;rw [<- hwd] at hXd hOd hRd hId hEd hBd hsd;rw [<- hwd];have HXd:=zh hXd;have HOd:=zh hOd;have HRd:=zh hRd;have HId:=zh hId;have HBd:=zh hBd;obtain ⟨i0,i1⟩:=yc2 hId;obtain ⟨e0,e1⟩:=yc2 hEd;have Hbeh:Hid (behindI ⟨op,av⟩ (z - 1)=z - 1 - tk+ad):=zh (by unfold behindI;rw [<- Htv.out,Had.out]);clear hwd hXd hOd hRd hId hEd hBd Hbb HXc HOc HRc HIc HBc HE ef;by_cases hk1:z - 1 < tk
         ·have Hno:Hid (¬ Flow c):=zh (not_flow_fit htl Hrch.out (by rw [<- Hzi.out];intro h;have h1:=h.1;rw [<- Htv.out] at h1;omega));go_wp2_with fail
          go_ret;exact ⟨false,rfl,Hfl.out false (no_iff Hno.out),HBd.out⟩
         ·have hk1i:tk<=z - 1:=by omega
          have hk2i:z - 1 - tk+ad=z - 1+(ad - tk):=by omega
          by_cases hk2:z - 1+(ad - tk) > 64
          ·have Hno:Hid (¬ Flow c):=zh (not_flow_fit htl Hrch.out (by rw [<- Hzi.out];intro h;have h1:=h.2;rw [Hbeh.out] at h1;omega));clear hk2i;go_wp2_with fail
           go_ret;exact ⟨false,rfl,Hfl.out false (no_iff Hno.out),HBd.out⟩
          ·have hk2j:z - 1+(ad - tk)<=64:=by omega
           have Hfit:Hid (fitI c[t] (z - 1)):=zh (by rw [<- Hzi.out];exact ⟨by rw [<- Htv.out];exact hk1i,by rw [Hbeh.out];omega⟩);clear hk2i;have Hdd:Hid (behindI c[t] (z - 1)=z - 1+(ad - tk)):=zh (by rw [<- Hzi.out,Hbeh.out];omega);have hdd0:0<=z - 1+(ad - tk):=by omega
           obtain ⟨dd,hdd⟩:∃ dd,dd=z - 1+(ad - tk):=⟨_,rfl⟩;rw [<- hdd] at hdd0 hk2j Hdd;go_upto_region 21 with (fail)
           rw [<- hdd];have HN:=zh (nextq_any op av t wd (by omega));have Hzn:Hid (nextZ t ⟨op,av⟩=(nextsI t c[t]).map fun (x:Nat)=>(x:Int)):=zh (by rw [Hzi.out];exact nextZ_eq (by rw [<- Hzi.out];exact Hri.out) t);have Hnin:Hid (∀ nx ∈ nextsI t c[t],nx<=c.length/\ReachI c nx dd):=zh (fun nx hto=>⟨nexts_in Hrt.out htl hto,by rw [<- Hdd.out];exact ReachI.step htl Hrch.out Hfit.out hto⟩);have HWt:Hid (WInv c P ts (fun k=>k=t)):=zh HW2.out;obtain ⟨zs,hzs⟩:∃ zs,zs=nextsI t c[t]:=⟨_,rfl⟩;rw [<- hzs] at Hzn Hnin;have Hzs:=zh hzs;rw [Hzn.out] at HN;clear hdd Hzn hzs hk1 hk2;go_wp2_with fail
           refine HN.out.mono ?_;rintro e11 w11 ⟨an,capn,rfl,hIn,hb11,hno⟩;rw [List.length_map] at hIn hno ⊢;have hIn':=hIn;have HIn:=zh hIn;have HXe:=zh (HXd.out.below hb11 (zr _));have HOe:=zh (HOd.out.below hb11 (zr _));have HRe:=zh (zbu HRd.out hb11 (zr _));have HBe:=zh (HBd.out.trans (hb11.mono HBd.out.size));have hse:=HBe.out.size;have hdgw:dg < wd.heap.size:=HOd.out.lt;have Hna:Hid (∀ g,(Value.slice an zs.length capn).ownBlock=some g->g≠dg/\(Value.slice (some ⟨gb,0,none⟩) ts.length cap7).ownBlock≠some g):=zh (fun g hg=>⟨by have:=hno g hg;omega,fun h=>by have:=hno g hg;have:=Hgb.out g h;omega⟩)
           have hcn:zs.length<=capn/\capn<=9223372036854775807:=by
            obtain ⟨a,cp,e,h1,h2⟩:=Sl.form hIn';simp only [Value.slice.injEq] at e;obtain ⟨-,-,rfl⟩:=e;rw [List.length_map] at h1;exact ⟨h1,h2⟩
           obtain ⟨hcn1,hcn2⟩:=hcn;clear hIn hIn' hb11 hno HXd HOd HRd HId HBd HN i0 i1 e0 e1;have Hz0:Hid (P.getD t 0=z):=zh Hzz.out;clear Hzz;go_wp2_with fail
           obtain ⟨wo,rfl⟩:∃ wo:World,wo=wr:=⟨_,rfl⟩;have h1i:IntKind.i64.wrap (dd+1)=dd+1:=IntWalk.i64_in _ (by omega);have H1i:=zh h1i;clear h1i;go_loopw [2,7,13,120,121,122,123,124,125,126,127,128,129,130,131,132,133,134,135,136,137,138,139,140,141,142,143,144,145] (fun _ t7 _ t120 _ _ _ _ _ _ _ _ _ _ _ _ _ _ _ _ _ _ _ _ _ _ _ _ _ wr=>∃ (m:Nat) (P1:List Int) (ts1:List Nat),m<=zs.length/\t120=.int .i64 m/\Hid (WInv c P1 ts1 (fun k=>k=t))/\Hid (OwnV wr dg 3 (P1.map (Value.int .i64)))/\Hid (wr.ownsRow (dg+1) 3 1 t7 ts1.length (ts1.map fun t=>Value.int .i64 (t:Nat)))/\Hid (OwnV wr w.heap.size 29 [.slice (some ⟨cb,coff,none⟩) c.length cap,.int .i64 p.locals,.int .u32 (w32 p.reads),.int .u32 (w32 p.writes)])/\Hid (Below w.heap.size w wr)/\Hid (Ints wr (zs.map fun (x:Nat)=>(x:Int)) (.slice an zs.length capn))/\Hid (∀ g,(Value.slice an zs.length capn).ownBlock=some g->g≠dg/\t7.ownBlock≠some g)/\Hid (∀ j,j < m->P1.getD (zs.getD j 0) 0=dd+1)/\Hid (P1.getD t 0=z)/\Hid (2 * P1.count 0+ts1.length<=2 * P.count 0+ts.length)) (fun _ _ _ t120 _ _ _ _ _ _ _ _ _ _ _ _ _ _ _ _ _ _ _ _ _ _ _ _ _ _=>zs.length - (intOf t120).toNat)
           case atStart=>exact ⟨0,P,ts,by omega,by first | rfl | go_num,HWt,HOe,HRe,HXe,HBe,HIn,Hna,zh (fun j hj=>by omega),Hz0,zh (zr _)⟩
           case round =>
            clear HWt HOe HRe HXe HBe HIn Hna Hz0;obtain ⟨m,P1,ts1,hm,rfl,HW1,HO1,HR1,HX1,HB1,HI1,HN1,HA1,HZ1,HM1⟩:=hrel;have hs1r:=HB1.out.size;by_cases hml:m < zs.length
            ·have hmi:(m:Int) < (zs.length:Int):=by omega
             obtain ⟨nx,hnx⟩:∃ nx,zs[m]=nx:=⟨_,rfl⟩;have Hnx:Hid (zs.getD m 0=nx):=zh (by rw [List.getD_eq_getElem?_getD,yD hml,hnx];rfl);obtain ⟨hnx1,hnx2⟩:=Hnin.out nx (by rw [<- hnx];exact List.getElem_mem hml);have Hrn:=zh hnx2
             have n0:∃ nb noff,an=some ⟨nb,noff,none⟩/\wr.cell? ⟨nb,noff+m,none⟩=some (.int .i64 (nx:Nat)):=by
              have hI:=HI1.out;unfold Ints at hI;rw [List.length_map] at hI;obtain ⟨nb,noff,e,-,hc⟩:=Sl.at (by omega) hI (by omega);refine ⟨nb,noff,e,?_⟩;rw [hc m (by omega),List.map_map,List.getElem?_map,yD hml,hnx];rfl
             obtain ⟨nb,noff,rfl,n0⟩:=n0;obtain ⟨y,hy⟩:∃ y,P1.getD nx 0=y:=⟨_,rfl⟩;have Hy:=zh hy;have hyv:=HW1.out.val nx;rw [hy] at hyv;have hpl:=HW1.out.len;have q1:=HO1.out.cell (i:=nx) (v:=.int .i64 y) (by rw [List.getElem?_map,<- hy,List.getD_eq_getElem?_getD,yD (by omega)];rfl);have qf:=HO1.out.free nx;obtain ⟨b7,cap8,rfl,hc71,hc72⟩:=Sl.form (Sl.of_own HR1.out);have hnxi:(nx:Int) < (c.length:Int)+1:=by omega
             have hnxn:nx < c.length+1:=by omega
             have hdgl:dg < wr.heap.size:=HO1.out.lt;clear hnx hy hnx2;by_cases hy0:y=0
             ·subst hy0;have HWn:=zh (HW1.out.push hnx1 Hy.out Hrn.out);have Hzr:=zh (zeros_set (P:=P1) (t:=nx) (v:=dd+1) (by omega) Hy.out (by omega))
              obtain ⟨W2,hW2,hO2,hR2,hX2,hB2,hI2,hsz2⟩:∃ W2,W2=wr.setCell ⟨dg,nx,none⟩ (.int .i64 (dd+1))/\OwnV W2 dg 3 ((P1.set nx (dd+1)).map (Value.int .i64))/\W2.ownsRow (dg+1) 3 1 (.slice b7 ts1.length cap8) ts1.length (ts1.map fun t=>Value.int .i64 (t:Nat))/\OwnV W2 w.heap.size 29 [.slice (some ⟨cb,coff,none⟩) c.length cap,.int .i64 p.locals,.int .u32 (w32 p.reads),.int .u32 (w32 p.writes)]/\Below w.heap.size w W2/\Ints W2 (zs.map fun (x:Nat)=>(x:Int)) (.slice (some ⟨nb,noff,none⟩) zs.length capn)/\W2.heap.size=wr.heap.size:=
               ⟨_,rfl,by rw [List.map_set];exact HO1.out.set nx _,zdB HR1.out (fun g hg e=>by have:=(HR1.out.lt g hg).1;omega) _ _,HX1.out.set_ne (by omega) _,HB1.out.setCell (by show w.heap.size<=dg;omega) _,Sl.grown HI1.out (zaY wr dg nx _) (.inr (fun e=>(HN1.out nb rfl).1 (by cases e;rfl))),by simp⟩
              have q2:=hO2.cell (i:=nx) (v:=.int .i64 (dd+1)) (by rw [List.map_set,List.getElem?_set_self (by rw [List.length_map];omega)]);have HW2w:=zh hW2;have HO2:=zh hO2;have HX2:=zh hX2;have HB2:=zh hB2;have HI2:=zh hI2;have hlt1:=HW1.out;have hbase:dg+1<=W2.heap.size:=by omega
              have htl1:ts1.length<=100000:=by have:=HM1.out;omega
              clear hW2 hO2 hX2 hB2 hI2 hlt1 HO1 HX1 HB1 HI1 hpl hsz2;go_upto_region 26 with (fail)
              rw [<- HW2w.out];clear q1 qf;go_wp2_with (at_builtin;refine zbj rfl (.tmp 134) (.tmp 136) 48 rfl hR2 info_pint Try.underlying48 rfl (by decide) rfl 1 1 rfl rfl rfl (by unfold maxLen;omega) (by omega) hbase ?_;intro v' w4 hown4 hg4 hb4 hat4;have q3:w4.cell? ⟨dg,nx,none⟩=some (.int .i64 (dd+1)):=(World.cell?_of_block (w:=W2) (w':=w4) (a:=⟨dg,nx,none⟩) (hb4.block dg (Nat.lt_succ_self dg))).trans q2)
              have HO4:Hid (OwnV w4 dg 3 ((P1.set nx (dd+1)).map (Value.int .i64))):=zh (by unfold OwnV;rw [hb4.block dg (by omega)];exact HO2.out);have HX4:Hid (OwnV w4 w.heap.size 29 [.slice (some ⟨cb,coff,none⟩) c.length cap,.int .i64 p.locals,.int .u32 (w32 p.reads),.int .u32 (w32 p.writes)]):=zh (by unfold OwnV;rw [hb4.block w.heap.size (by omega)];exact HX2.out);have HB4:=zh (HB2.out.trans (hb4.mono (by omega)));have HI4:Hid (Ints w4 (zs.map fun (x:Nat)=>(x:Int)) (.slice (some ⟨nb,noff,none⟩) zs.length capn)):=zh (Sl.grown HI2.out hg4 (.inr (fun e=>(HN1.out nb rfl).2 (by rw [<- e];rfl))));have hnbl:nb < W2.heap.size:=by have h:=HI2.out;unfold Ints at h;rw [List.length_map] at h;exact Sl.ownLt (sz:=1) (n:=zs.length) (by decide) h (by omega) rfl
              have HN4:Hid (∀ g,(Value.slice (some ⟨nb,noff,none⟩) zs.length capn).ownBlock=some g->g≠dg/\v'.ownBlock≠some g):=zh (fun g hg=>⟨(HN1.out g hg).1,fun e=>by
               have hgn:nb=g:=Option.some.inj hg;rcases hat4 with h | ⟨g',h,hge⟩
               ·exact (HN1.out nb rfl).2 (by rw [<- h,hgn];exact e)
               ·have:=Option.some.inj (h.symm.trans e);omega⟩)
              have HR4:Hid (w4.ownsRow (dg+1) 3 1 v' (ts1++[nx]).length ((ts1++[nx]).map fun t=>Value.int .i64 (t:Nat))):=zh (by rw [yA,List.map_append];exact hown4);clear hown4 hg4 hb4 hat4;go_wp2_with fail
              go_roundw
              case rel =>
               refine ⟨m+1,P1.set nx (dd+1),ts1++[nx],by omega,by go_num,HWn,HO4,HR4,HX4,HB4,HI4,HN4,zh fun j hj=>?_,zh ?_,zh ?_⟩
               ·have hl:=HW1.out.len;rw [getD_set _ (by omega)];by_cases hjm:j=m
                ·rw [hjm,Hnx.out,yP rfl]
                ·split
                 ·rfl
                 ·exact HA1.out j (by omega)
               ·have hl:=HW1.out.len;rw [getD_set _ (by omega)];have h1:=HZ1.out;have h2:=Hy.out;split
                ·rename_i e;rw [<- e] at h2;omega
                ·exact h1
               ·have:=Hzr.out;have:=HM1.out;rw [yA,List.length_singleton];omega
              case measure=>simp [intOf];omega
             ·have hy0b:(y == 0)=false:=by rw [beq_eq_false_iff_ne];exact hy0
              by_cases hyd:y=dd+1
              ·have hydb:(y != dd+1)=false:=by rw [bne_eq_false_iff_eq];exact hyd
               have Hyd:=zh hyd;clear hyd hpl;go_wp2_with fail
               go_roundw
               case rel =>
                refine ⟨m+1,P1,ts1,by omega,by go_num,HW1,HO1,HR1,HX1,HB1,HI1,HN1,zh fun j hj=>?_,HZ1,HM1⟩;by_cases hjm:j=m
                ·rw [hjm,Hnx.out,Hy.out];exact Hyd.out
                ·exact HA1.out j (by omega)
               case measure=>simp [intOf];omega
              ·have hydb:(y != dd+1)=true:=by rw [bne_iff_ne];exact hyd
               have Hno:Hid (¬ Flow c):=zh (not_flow_one (HW1.out.reach nx (by rw [Hy.out];exact hy0)) Hrn.out (by rw [Hy.out];omega));clear hyd hpl;go_wp2_with fail
               go_ret;exact ⟨false,rfl,Hfl.out false (no_iff Hno.out),HB1.out⟩
            ·have hmi:¬ (m:Int) < (zs.length:Int):=by omega
             have hme:m=zs.length:=by omega
             have HWd:Hid (WInv c P1 ts1 (fun _=>False)):=zh (HW1.out.done (by
              intro hl hp;simp only;rw [HZ1.out];refine ⟨Hfit.out,fun nx hnx=>?_⟩;rw [<- Hzs.out] at hnx;obtain ⟨j,hj,rfl⟩:=List.getElem_of_mem hnx;have:=HA1.out j (by omega);have hej:zs.getD j 0=zs[j]:=by rw [List.getD_eq_getElem?_getD,yD hj];rfl
              rw [hej] at this
              rw [this,Hdd.out];omega))
             have hM:=HM1.out;clear hme;go_wp2_with fail
             go_roundg (2 * P1.count 0+ts1.length)
             case measure=>first | omega | (simp only [List.length_concat];omega) | (rw [hgl];omega)
             case rel=>exact ⟨P1,ts1,rfl,HWd,HO1,HR1,HX1,HB1,zh (by omega)⟩
end Go.Proofs.Ytdeneckmoejcfaa

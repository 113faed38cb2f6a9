/- The program's printer: lines, walked. Printed by gen_plines.py. -/
import Derived.Test.YtoaojdobjinhfaaGreatDoorPrEC
import Derived.Test.YtoaojdobjinhfaaGreatDoorQRightC
set_option linter.unusedSimpArgs false
set_option linter.unusedVariables false
set_option maxRecDepth 100000
set_option maxHeartbeats 8000000
namespace Go.Proofs.YtoaojdobjinhfaaGreatDoor
open Go.RowKit

theorem zhf (tabs:List UInt8):∀ (a b:List St),zaM tabs (a++b)=zaM tabs a++zaM tabs b:=by
 intro a
 induction a with
 | nil=>intro b;rw [zaM];rfl
 | cons x r ih =>
  intro b;rw [List.cons_append,zaM,zaM,ih];simp only [List.append_assoc]
theorem zkt {tabs:List UInt8} {l:List St} {k:Nat} {x:St} (h:l[k]? = some x):zaM tabs (l.take (k+1))=zaM tabs (l.take k)++(tabs++oneW tabs x++[10])∧(zaM tabs (l.take (k+1))).length≤(zaM tabs l).length:=by
 constructor
 ·rw [List.take_add_one,h,zhf];congr 1
  show zaM tabs [x]=_;rw [zaM,zaM,List.append_nil]
 ·conv=>rhs;rw [← List.take_append_drop (k+1) l,zhf,List.length_append]
  omega
theorem SsL.mono {w:World} {B B':Nat} {xs:List St} {v:Value} (h:SsL w B xs v) (hB:B≤B'):SsL w B' xs v:=by
 obtain ⟨cs,h1,h2,h3⟩:=h;exact ⟨cs,h1,h2.imp id fun k g e=>Nat.lt_of_lt_of_le (k g e) hB,h3.weak fun g _ hg=>Nat.lt_of_lt_of_le hg hB⟩
theorem zlI (w:World):Calls Tryz.prog 50 #[] w fun e w'=>e=.returned (.slice (some ⟨w.heap.size,0,none⟩) 11 11)∧OwnV w' w.heap.size 9 (kindWordsP.map fun s=>Value.string (bstr s))∧Below w.heap.size w w':=by
 go_enter Tryz.func50,Tryz.ntmps50
 go_wp2;go_ret;exact ⟨rfl,OwnV.new w 9 (kindWordsP.map fun s=>Value.string (bstr s)),(Below.refl _ _).alloc (zr _) _⟩
theorem zgv {w0:World} {B d D:Nat} (hG:Glob w0) (hgB:glB≤B) (l:List St) (hsh:∀ s ∈ l,ShpT (d+1) s)
  (hLn:l≠[]→∀ l',(∀ s ∈ l',ShpT d s)→LnC w0 B D l') (hBr:l≠[]→∀ s,ShpT (d+1) s→opT s=4→BrC w0 B (D+1) s):LnC w0 B (D+1) l:=by
 intro v w b bs tabs hb0 hB hL hbd htb hlen;obtain ⟨la,lc,rfl,hlc1,hlc2⟩:=hL.form;have hmf:=zmf Tryz.prog
 have hen:=zhy;have Hb0:=zh hb0;have HL:=zh hL;have Hlen:=zh hlen;have hbl:=hbd.lt;have hge:=hbd.ge;have htz:(bstr tabs).size≤100:=by rw [zaC];omega
 have HG:=zh hG;have HSh:=zh hsh;have HLn:=zh hLn;have HBr:=zh hBr;have hll:(l.length:Int)≤9223372036854775807:=by omega
 have Htb:=zh htb;clear hb0 hL hlen hG hsh hLn hBr htb;go_enter Tryz.func54,Tryz.ntmps54
 go_wp2_with fail
 go_loopw [7,8,11,12,13,14,15,16,17,18,19,20,21,22,23,24,25,26,27,28,29,30,31,32,33,34,35,36,37,38,39,40,41,42,43,44,45,46,47,48,49,50,51,52,53,54,55,56,57,58,59,60,61,62,63,64,65,66,67,68,69,70,71,72,73,74,75,76,77,78,79,80,81,82,83,84,85,86,87,88,89,90,91,92,93,94] (fun _ _ t11 _ _ _ _ _ _ _ _ _ _ _ _ _ _ _ _ _ _ _ _ _ _ _ _ _ _ _ _ _ _ _ _ _ _ _ _ _ _ _ _ _ _ _ _ _ _ _ _ _ _ _ _ _ _ _ _ _ _ _ _ _ _ _ _ _ _ _ _ _ _ _ _ _ _ _ _ _ _ _ _ _ _ _ wr=>∃ k:Nat,t11=.int .i64 k∧k≤l.length∧Hid (Bd wr B b (bs++zaM tabs (l.take k)))∧Hid (Kp B b w wr)) (fun _ _ t11 _ _ _ _ _ _ _ _ _ _ _ _ _ _ _ _ _ _ _ _ _ _ _ _ _ _ _ _ _ _ _ _ _ _ _ _ _ _ _ _ _ _ _ _ _ _ _ _ _ _ _ _ _ _ _ _ _ _ _ _ _ _ _ _ _ _ _ _ _ _ _ _ _ _ _ _ _ _ _ _ _ _ _ _=>l.length - (intOf t11).toNat)
 case atStart=>exact ⟨0,by first | rfl | go_num,by omega,zh (by rw [List.take_zero,zaM,List.append_nil];exact hbd),zh (Kp.refl _ _ _)⟩
 case round =>
  clear hbd;obtain ⟨k,rfl,hk,HD,HK⟩:=hrel;have hs0:=HK.out.size;obtain hkl | hkl:k=l.length∨k < l.length:=by omega
  ·have hck:¬ ((k:Int) < (l.length:Int)):=by omega
   have hD:Bd wr B b (bs++zaM tabs l):=by have:=HD.out;rwa [hkl,List.take_length] at this
   have HD2:=zh hD;clear hD HD;go_wp2_with fail
   exact bodyPost_ret (results_none rfl _ _ _) rfl ⟨rfl,HD2.out,HK.out⟩
  ·have hck:(k:Int) < (l.length:Int):=by omega
   have hk0:(0:Int)≤(k:Int):=by omega
   obtain ⟨lb,loff,op,n,name,es,body,els,ae,ce,ab,cb,al,cl,rfl,hlB,hlw,hxk,c0,c1,c2,c3,c4,c5,hEs,hBo,hEl⟩:=(HL.out.low HK.out.1).at hkl;obtain ⟨hlt1,hlt2⟩:=zkt (tabs:=tabs) hxk;have hsx:=HSh.out _ (List.mem_of_getElem? hxk);have hne:l≠[]:=fun e=>by rw [e] at hkl;simp at hkl
   have hbx:=HBr.out hne _ hsx;have HLn:=zh (HLn.out hne);rw [hlt1,List.length_append,List.length_append,List.length_append] at hlt2;obtain ⟨PF,hPF⟩:∃ P,bs++zaM tabs (l.take k)=P:=⟨_,rfl⟩
   have hPl:PF.length+(tabs.length+(oneW tabs (.mk op n name es body els)).length+1)≤100000000000000:=by
    have:=Hlen.out;rw [← hPF,List.length_append];simp only [List.length_cons,List.length_nil] at hlt2;omega
   rw [hPF] at HD
   have HNx:Hid (∀ W,Bd W B b (PF++tabs++oneW tabs (.mk op n name es body els)++[10])→Bd W B b (bs++zaM tabs (l.take (k+1)))):=zh (fun W h=>by
    rw [hlt1,← List.append_assoc,hPF]
    simpa only [List.append_assoc] using h)
   obtain ⟨W2,hW2,hb2,hO2⟩:∃ W2,W2=wr.alloc (.cells #[.int .u8 op,.int .i64 n,.string (bstr name),.slice ae es.length ce,.slice ab body.length cb,.slice al els.length cl] 56)∧Below wr.heap.size wr W2∧OwnV W2 wr.heap.size 56 [.int .u8 op,.int .i64 n,.string (bstr name),.slice ae es.length ce,.slice ab body.length cb,.slice al els.length cl]:=⟨_,rfl,(Below.refl _ _).alloc (zr _) _,OwnV.new _ _ _⟩;have HW2:=zh hW2;have HK2:=zh (HK.out.trans (Kp.of_below (b:=b) hb2 (by omega)));have HO2:=zh hO2;have HEs:=zh (hEs.low (hb2.mono (by omega)));have HBo:=zh (hBo.low (hb2.mono (by omega)));have HEl:=zh (hEl.low (hb2.mono (by omega)));have hs2:=hb2.size;have hws:=zaT tabs (HD.out.below hb2) (by omega) (by omega);have HWs:=zh hws;have hblr:=HD.out.lt;have HPl:=zh hPl;clear hW2 hb2 hO2 hEs hBo hEl hws hPF hPl HD hxk hlt1 hlt2 HSh HL HBr;go_upto_region 3 with (fail)
   rw [← HW2.out];clear c0 c1 c2 c3 c4 c5;go_wp2_with fail
   go_at_call 82;refine HWs.out.mono ?_;rintro e3 w3 ⟨rfl,hD3,hk3⟩;have hs3:=hk3.size;have HK3:=zh (HK2.out.trans hk3);have HO3:=zh (hk3.own HO2.out (by omega) (by decide));have HEs3:=zh (HEs.out.low hk3.1);have HBo3:=zh (HBo.out.low hk3.1);have HEl3:=zh (HEl.out.low hk3.1);have HD3:=zh hD3;have Hb3:=zh (Hb0.out.trans HK3.out.1);have hlt3:=HO3.out.lt;clear hD3 hk3 HWs HK2 HO2 HEs HBo HEl
   generalize hgx:wr.heap.size=gx at *
   have x0:=HO3.out.cell (i:=0) rfl
   cases hsx with
   | @letS _ name e h he =>
    have hone:=zju tabs name e;have hnl:(bstr name).size≤24:=by rw [zaC];exact zcS (zbG h).1
    have HA0:Hid (∀ W,Below w3.heap.size w3 W→Calls Tryz.prog 83 #[.int .i64 0,.pointer (some ⟨gx,0,none⟩)] W (TxtE (zab e) W)):=zh (fun W hb=>zc4 (i:=0) (y:=e) HG.out hgB (HO3.out.below hb (zr _)) (HEs3.out.low (hb.mono (by omega))) (Hb3.out.trans (hb.mono (by omega))) (by have:=hb.size;omega) rfl he);obtain ⟨S0,hS0⟩:∃ S,bstr (zab e)=S:=⟨_,rfl⟩;have hln0:S0.size≤1000000000000000:=by rw [← hS0,zaC,← zaL];exact zaE he (by omega) _
    unfold TxtE at HA0;simp only [hS0] at HA0;have hbst:bstr ([108,101,116,32]++name++[32,61,32]++zab e++[59,10])=((({ data:=#[108,101,116,32] }:ByteArray)++bstr name)++{ data:=#[32,61,32] }++S0)++{ data:=#[59,10] }:=by rw [← hS0];simp [zax,zbV]
    have x2:=HO3.out.cell (i:=2) rfl;go_upto_region 7 with (fail)
    refine zaW 9 (fun w'=>Below w3.heap.size w3 w') (by kernel_rfl) (by kernel_rfl) ((Below.refl _ _).drew) ?_;simp only [List.take_succ_cons,List.take_zero,List.drop_succ_cons,List.drop_zero]
    repeat
     try simp only [Act.put,zs1,zs3,zs2]
     apply stepsSeq.cons
     ·intro w' hb1;have Hb1':=zh hb1;have x2':=Below.keep hb1 x2;simp only [Act.put,zs1,zs3,zs2];go_wp2_with (refine (HA0.out _ Hb1'.out).mono ?_;rintro e4 w4 ⟨rfl,hb2⟩)
      first | exact ⟨rfl,Hb1'.out⟩ | exact ⟨rfl,Hb1'.out.trans (hb2.mono Hb1'.out.size)⟩
    try simp only [Act.put,zs1,zs3,zs2]
    refine stepsSeq.nil ?_;intro w' hb1;have hs4:=hb1.size;have hws:=zaT ([108,101,116,32]++name++[32,61,32]++zab e++[59,10]) (HD3.out.below hb1) (by omega) (by have:=HPl.out;rw [hone] at this;simp only [List.length_append,List.length_cons,List.length_nil] at this ⊢;omega);rw [hbst] at hws;have HWs:=zh hws;have HK4:=zh (HK3.out.trans (Kp.of_below (b:=b) hb1 (by omega)));clear hws hb1 hbst;go_wp2_with fail
    go_at_call 82;refine HWs.out.mono ?_;rintro e5 w5 ⟨rfl,hD5,hk5⟩;have HD5:=zh hD5;have HK9:=zh (HK4.out.trans hk5);clear hD5 hk5 HWs x0 x2;go_wp2_with fail
    go_roundw
    case measure=>show l.length - ((k:Int)+1).toNat < l.length - (k:Int).toNat;omega
    case rel=>exact ⟨k+1,by first | rfl | go_num,by omega,zh (HNx.out _ (by have:=HD5.out;rw [hone];simpa only [List.append_assoc,List.cons_append,List.nil_append] using this)),HK9⟩
   | @setS _ name e h he =>
    have hone:=zjv tabs name e;have hnl:(bstr name).size≤24:=by rw [zaC];exact zcS (zbG h).1
    have HA0:Hid (∀ W,Below w3.heap.size w3 W→Calls Tryz.prog 83 #[.int .i64 0,.pointer (some ⟨gx,0,none⟩)] W (TxtE (zab e) W)):=zh (fun W hb=>zc4 (i:=0) (y:=e) HG.out hgB (HO3.out.below hb (zr _)) (HEs3.out.low (hb.mono (by omega))) (Hb3.out.trans (hb.mono (by omega))) (by have:=hb.size;omega) rfl he);obtain ⟨S0,hS0⟩:∃ S,bstr (zab e)=S:=⟨_,rfl⟩;have hln0:S0.size≤1000000000000000:=by rw [← hS0,zaC,← zaL];exact zaE he (by omega) _
    unfold TxtE at HA0;simp only [hS0] at HA0;have hbst:bstr (name++[32,61,32]++zab e++[59,10])=((bstr name++{ data:=#[32,61,32] })++S0)++{ data:=#[59,10] }:=by rw [← hS0];simp [zax,zbV]
    have x2:=HO3.out.cell (i:=2) rfl;go_upto_region 9 with (fail)
    refine zaW 8 (fun w'=>Below w3.heap.size w3 w') (by kernel_rfl) (by kernel_rfl) ((Below.refl _ _).drew) ?_;simp only [List.take_succ_cons,List.take_zero,List.drop_succ_cons,List.drop_zero]
    repeat
     try simp only [Act.put,zs1,zs3,zs2]
     apply stepsSeq.cons
     ·intro w' hb1;have Hb1':=zh hb1;have x2':=Below.keep hb1 x2;simp only [Act.put,zs1,zs3,zs2];go_wp2_with (refine (HA0.out _ Hb1'.out).mono ?_;rintro e4 w4 ⟨rfl,hb2⟩)
      first | exact ⟨rfl,Hb1'.out⟩ | exact ⟨rfl,Hb1'.out.trans (hb2.mono Hb1'.out.size)⟩
    try simp only [Act.put,zs1,zs3,zs2]
    refine stepsSeq.nil ?_;intro w' hb1;have hs4:=hb1.size;have hws:=zaT (name++[32,61,32]++zab e++[59,10]) (HD3.out.below hb1) (by omega) (by have:=HPl.out;rw [hone] at this;simp only [List.length_append,List.length_cons,List.length_nil] at this ⊢;omega);rw [hbst] at hws;have HWs:=zh hws;have HK4:=zh (HK3.out.trans (Kp.of_below (b:=b) hb1 (by omega)));clear hws hb1 hbst;go_wp2_with fail
    go_at_call 82;refine HWs.out.mono ?_;rintro e5 w5 ⟨rfl,hD5,hk5⟩;have HD5:=zh hD5;have HK9:=zh (HK4.out.trans hk5);clear hD5 hk5 HWs x0 x2;go_wp2_with fail
    go_roundw
    case measure=>show l.length - ((k:Int)+1).toNat < l.length - (k:Int).toNat;omega
    case rel=>exact ⟨k+1,by first | rfl | go_num,by omega,zh (HNx.out _ (by have:=HD5.out;rw [hone];simpa only [List.append_assoc,List.cons_append,List.nil_append] using this)),HK9⟩
   | @putS _ n e e' h0 h1 he he' =>
    have hone:=zjw tabs n e e';obtain ⟨N,rfl⟩:∃ N:Nat,n=(N:Int):=⟨n.toNat,by omega⟩;have hN1:1≤N:=by omega
    have hN2:N≤10:=by omega
    rw [show ((N:Int) - 1).toNat=N - 1 from by omega] at hone;have HA0:Hid (∀ W,Below w3.heap.size w3 W→Calls Tryz.prog 83 #[.int .i64 0,.pointer (some ⟨gx,0,none⟩)] W (TxtE (zab e) W)):=zh (fun W hb=>zc4 (i:=0) (y:=e) HG.out hgB (HO3.out.below hb (zr _)) (HEs3.out.low (hb.mono (by omega))) (Hb3.out.trans (hb.mono (by omega))) (by have:=hb.size;omega) rfl he);obtain ⟨S0,hS0⟩:∃ S,bstr (zab e)=S:=⟨_,rfl⟩;have hln0:S0.size≤1000000000000000:=by rw [← hS0,zaC,← zaL];exact zaE he (by omega) _
    unfold TxtE at HA0;simp only [hS0] at HA0;have HA1:Hid (∀ W,Below w3.heap.size w3 W→Calls Tryz.prog 83 #[.int .i64 1,.pointer (some ⟨gx,0,none⟩)] W (TxtE (zab e') W)):=zh (fun W hb=>zc4 (i:=1) (y:=e') HG.out hgB (HO3.out.below hb (zr _)) (HEs3.out.low (hb.mono (by omega))) (Hb3.out.trans (hb.mono (by omega))) (by have:=hb.size;omega) rfl he');obtain ⟨S1,hS1⟩:∃ S,bstr (zab e')=S:=⟨_,rfl⟩;have hln1:S1.size≤1000000000000000:=by rw [← hS1,zaC,← zaL];exact zaE he' (by omega) _
    unfold TxtE at HA1;simp only [hS1] at HA1;obtain ⟨KW,hKW⟩:∃ K,bstr (kindWords.getD (N - 1) [])=K:=⟨_,rfl⟩
    have hkwl:KW.size≤100:=by
     rw [← hKW,zaC];have:=zd7 (n:=(N:Int)) (by omega) (by omega);rw [show ((N:Int) - 1).toNat=N - 1 from by omega] at this;omega
    have hbst:bstr (kindWords.getD (N - 1) []++[91]++zab e++[93,32,61,32]++zab e'++[59,10])=((((KW++{ data:=#[91] })++S0)++{ data:=#[93,32,61,32] })++S1)++{ data:=#[59,10] }:=by rw [← hS0,← hS1,← hKW];simp [zax,zbV]
    have HKW:=zh hKW
    have hcell:∀ W,OwnV W w3.heap.size 9 (kindWordsP.map fun s=>Value.string (bstr s))→W.cell? ⟨w3.heap.size,N,none⟩=some (.string KW):=fun W h=>by
     have:=h.cell (i:=N) (v:=.string KW) (by rw [List.getElem?_map,zjG hN1 hN2,← HKW.out];rfl);exact this
    have Hcell:=zh hcell;have HKn:=zh (zlI w3.drew);have hNi:(N:Int) < 11:=by omega
    have hNj:(0:Int)≤(N:Int):=by omega
    have x1:=HO3.out.cell (i:=1) rfl;clear hcell hKW hS0 hS1;go_upto_region 11 with (fail)
    refine zc7 15 [0,3,0,0,4,4,4,0,4,4,4,0,4,4,4] (fun b w'=>Below w3.heap.size w3 w'∧(b=false→w'=w3.drew)∧(b=true→w'.cell? ⟨w3.heap.size,N,none⟩=some (.string KW))) (by kernel_rfl) (by kernel_rfl) ⟨(Below.refl _ _).drew,fun _=>rfl,fun h=>by cases h⟩ ?_;simp only [List.take_succ_cons,List.take_zero,List.drop_succ_cons,List.drop_zero];try simp only [Act.put,zs1,zs3,zs2]
    apply stepsSeq2.val
    ·rintro b w' hE;have HE:=zh hE;have x1':=Below.keep hE.1 x1;clear hE;try simp only [Act.put,zs1,zs3,zs2]
     go_wp2;exact ⟨rfl,HE.out⟩
    try simp only [Act.put,zs1,zs3,zs2]
    apply stepsSeq2.mem
    ·rintro w' ⟨-,hE0,-⟩;obtain rfl:=hE0 rfl;try simp only [Act.put,zs1,zs3,zs2]
     go_wp2_with fail
     go_at_call 50;refine HKn.out.mono ?_;rintro e4 w4 ⟨rfl,hs4,hb4⟩;have Hs4:=zh (Hcell.out _ hs4);have Hb4:=zh hb4;clear hs4 hb4;go_wp2;exact ⟨rfl,Below.trans (b:=w3.drew) (Below.refl _ _).drew Hb4.out,fun h=>(by cases h),fun _=>Hs4.out⟩
    try simp only [Act.put,zs1,zs3,zs2]
    apply stepsSeq2.val
    ·rintro b w' hE;have HE:=zh hE;have x1':=Below.keep hE.1 x1;clear hE;try simp only [Act.put,zs1,zs3,zs2]
     go_wp2;exact ⟨rfl,HE.out⟩
    try simp only [Act.put,zs1,zs3,zs2]
    apply stepsSeq2.val
    ·rintro b w' hE;have HE:=zh hE;have x1':=Below.keep hE.1 x1;clear hE;try simp only [Act.put,zs1,zs3,zs2]
     go_wp2;exact ⟨rfl,HE.out⟩
    try simp only [Act.put,zs1,zs3,zs2]
    apply stepsSeq2.back
    ·rintro w' hE;have HE:=zh hE;have kc:w'.cell? ⟨w3.heap.size,N,none⟩=some (.string KW):=hE.2.2 rfl;clear hE;try simp only [Act.put,zs1,zs3,zs2]
     go_wp2;first | exact ⟨rfl,HE.out⟩ | exact ⟨rfl,HE.out.1,HE.out.2.2 trivial⟩
    try simp only [Act.put,zs1,zs3,zs2]
    apply stepsSeq2.back
    ·rintro w' hE;have HE:=zh hE;have kc:w'.cell? ⟨w3.heap.size,N,none⟩=some (.string KW):=hE.2.2 rfl;clear hE;try simp only [Act.put,zs1,zs3,zs2]
     go_wp2;first | exact ⟨rfl,HE.out⟩ | exact ⟨rfl,HE.out.1,HE.out.2.2 trivial⟩
    try simp only [Act.put,zs1,zs3,zs2]
    apply stepsSeq2.back
    ·rintro w' hE;have HE:=zh hE;have kc:w'.cell? ⟨w3.heap.size,N,none⟩=some (.string KW):=hE.2.2 rfl;clear hE;try simp only [Act.put,zs1,zs3,zs2]
     go_wp2;first | exact ⟨rfl,HE.out⟩ | exact ⟨rfl,HE.out.1,HE.out.2.2 trivial⟩
    try simp only [Act.put,zs1,zs3,zs2]
    apply stepsSeq2.val
    ·rintro b w' hE;have HE:=zh hE;have x1':=Below.keep hE.1 x1;clear hE;try simp only [Act.put,zs1,zs3,zs2]
     go_wp2;exact ⟨rfl,HE.out⟩
    try simp only [Act.put,zs1,zs3,zs2]
    apply stepsSeq2.back
    ·rintro w' hE;have HE:=zh hE;clear hE;try simp only [Act.put,zs1,zs3,zs2]
     go_wp2_with fail
     refine (HA0.out _ HE.out.1).mono ?_;rintro e4 w4 ⟨rfl,hb4⟩;have Hb4:=zh hb4;clear hb4;go_wp2;exact ⟨rfl,HE.out.1.trans (Hb4.out.mono HE.out.1.size),fun h=>(by cases h),fun _=>Below.keep Hb4.out (HE.out.2.2 (by first | rfl | trivial))⟩
    try simp only [Act.put,zs1,zs3,zs2]
    apply stepsSeq2.back
    ·rintro w' hE;have HE:=zh hE;have kc:w'.cell? ⟨w3.heap.size,N,none⟩=some (.string KW):=hE.2.2 rfl;clear hE;try simp only [Act.put,zs1,zs3,zs2]
     go_wp2;first | exact ⟨rfl,HE.out⟩ | exact ⟨rfl,HE.out.1,HE.out.2.2 trivial⟩
    try simp only [Act.put,zs1,zs3,zs2]
    apply stepsSeq2.back
    ·rintro w' hE;have HE:=zh hE;have kc:w'.cell? ⟨w3.heap.size,N,none⟩=some (.string KW):=hE.2.2 rfl;clear hE;try simp only [Act.put,zs1,zs3,zs2]
     go_wp2;first | exact ⟨rfl,HE.out⟩ | exact ⟨rfl,HE.out.1,HE.out.2.2 trivial⟩
    try simp only [Act.put,zs1,zs3,zs2]
    apply stepsSeq2.val
    ·rintro b w' hE;have HE:=zh hE;have x1':=Below.keep hE.1 x1;clear hE;try simp only [Act.put,zs1,zs3,zs2]
     go_wp2;exact ⟨rfl,HE.out⟩
    try simp only [Act.put,zs1,zs3,zs2]
    apply stepsSeq2.back
    ·rintro w' hE;have HE:=zh hE;clear hE;try simp only [Act.put,zs1,zs3,zs2]
     go_wp2_with fail
     refine (HA1.out _ HE.out.1).mono ?_;rintro e4 w4 ⟨rfl,hb4⟩;have Hb4:=zh hb4;clear hb4;go_wp2;exact ⟨rfl,HE.out.1.trans (Hb4.out.mono HE.out.1.size),fun h=>(by cases h),fun _=>Below.keep Hb4.out (HE.out.2.2 (by first | rfl | trivial))⟩
    try simp only [Act.put,zs1,zs3,zs2]
    apply stepsSeq2.back
    ·rintro w' hE;have HE:=zh hE;have kc:w'.cell? ⟨w3.heap.size,N,none⟩=some (.string KW):=hE.2.2 rfl;clear hE;try simp only [Act.put,zs1,zs3,zs2]
     go_wp2;first | exact ⟨rfl,HE.out⟩ | exact ⟨rfl,HE.out.1,HE.out.2.2 trivial⟩
    try simp only [Act.put,zs1,zs3,zs2]
    apply stepsSeq2.back
    ·rintro w' hE;have HE:=zh hE;have kc:w'.cell? ⟨w3.heap.size,N,none⟩=some (.string KW):=hE.2.2 rfl;clear hE;try simp only [Act.put,zs1,zs3,zs2]
     go_wp2;first | exact ⟨rfl,HE.out⟩ | exact ⟨rfl,HE.out.1,HE.out.2.2 trivial⟩
    try simp only [Act.put,zs1,zs3,zs2]
    refine stepsSeq2.nil ?_;rintro w4 ⟨hb1,-,-⟩;have hs4:=hb1.size;have hws:=zaT (kindWords.getD (N - 1) []++[91]++zab e++[93,32,61,32]++zab e'++[59,10]) (HD3.out.below hb1) (by omega) (by have:=HPl.out;rw [hone] at this;simp only [List.length_append,List.length_cons,List.length_nil] at this ⊢;omega);rw [hbst] at hws;have HWs:=zh hws;have HK4:=zh (HK3.out.trans (Kp.of_below (b:=b) hb1 (by omega)));clear hws hb1 hbst HKn Hcell;try simp only [Act.put,zs1,zs3,zs2]
    go_wp2_with fail
    go_at_call 82;refine HWs.out.mono ?_;rintro e5 w5 ⟨rfl,hD5,hk5⟩;have HD5:=zh hD5;have HK9:=zh (HK4.out.trans hk5);clear hD5 hk5 HWs x1 x0;go_wp2_with fail
    go_roundw
    case measure=>show l.length - ((k:Int)+1).toNat < l.length - (k:Int).toNat;omega
    case rel=>exact ⟨k+1,by first | rfl | go_num,by omega,zh (HNx.out _ (by have:=HD5.out;rw [hone];simpa only [List.append_assoc,List.cons_append,List.nil_append] using this)),HK9⟩
   | @stopS _ op h =>
    rcases h with rfl | rfl
    ·have hone:=zhZ tabs;have hws:=zaT [115,116,111,112,59,10] HD3.out (by omega) (by have:=HPl.out;rw [hone] at this;simp only [List.length_append,List.length_cons,List.length_nil] at this ⊢;omega);have HWs:=zh (show Calls Tryz.prog 82 #[.pointer (some ⟨b,0,none⟩),.string { data:=#[115,116,111,112,59,10] }] w3 _ from hws);clear hws;go_wp2_with fail
     go_at_call 82;refine HWs.out.mono ?_;rintro e5 w5 ⟨rfl,hD5,hk5⟩;have HD5:=zh hD5;have HK9:=zh (HK3.out.trans hk5);clear hD5 hk5 HWs x0;go_wp2_with fail
     go_roundw
     case measure=>show l.length - ((k:Int)+1).toNat < l.length - (k:Int).toNat;omega
     case rel=>exact ⟨k+1,by first | rfl | go_num,by omega,zh (HNx.out _ (by have:=HD5.out;rw [hone];simpa only [List.append_assoc,List.cons_append,List.nil_append] using this)),HK9⟩
    ·have hone:=zh0 tabs;have hws:=zaT [102,97,105,108,59,10] HD3.out (by omega) (by have:=HPl.out;rw [hone] at this;simp only [List.length_append,List.length_cons,List.length_nil] at this ⊢;omega);have HWs:=zh (show Calls Tryz.prog 82 #[.pointer (some ⟨b,0,none⟩),.string { data:=#[102,97,105,108,59,10] }] w3 _ from hws);clear hws;go_wp2_with fail
     go_at_call 82;refine HWs.out.mono ?_;rintro e5 w5 ⟨rfl,hD5,hk5⟩;have HD5:=zh hD5;have HK9:=zh (HK3.out.trans hk5);clear hD5 hk5 HWs x0;go_wp2_with fail
     go_roundw
     case measure=>show l.length - ((k:Int)+1).toNat < l.length - (k:Int).toNat;omega
     case rel=>exact ⟨k+1,by first | rfl | go_num,by omega,zh (HNx.out _ (by have:=HD5.out;rw [hone];simpa only [List.append_assoc,List.cons_append,List.nil_append] using this)),HK9⟩
   | @whileS _ e body he hb =>
    have hone:=zgX tabs e body;unfold zaZ at hone;have HA0:Hid (∀ W,Below w3.heap.size w3 W→Calls Tryz.prog 83 #[.int .i64 0,.pointer (some ⟨gx,0,none⟩)] W (TxtE (zab e) W)):=zh (fun W hb=>zc4 (i:=0) (y:=e) HG.out hgB (HO3.out.below hb (zr _)) (HEs3.out.low (hb.mono (by omega))) (Hb3.out.trans (hb.mono (by omega))) (by have:=hb.size;omega) rfl he);obtain ⟨S0,hS0⟩:∃ S,bstr (zab e)=S:=⟨_,rfl⟩;have hln0:S0.size≤1000000000000000:=by rw [← hS0,zaC,← zaL];exact zaE he (by omega) _
    unfold TxtE at HA0;simp only [hS0] at HA0;have hbst:bstr ([119,104,105,108,101,32,40]++zab e++[41,32,123,10])=(({ data:=#[119,104,105,108,101,32,40] }:ByteArray)++S0)++{ data:=#[41,32,123,10] }:=by rw [← hS0];simp [zax,zbV]
    go_wp2_with fail
    refine (HA0.out _ (Below.refl _ _)).mono ?_;rintro e4 w4 ⟨rfl,hb4⟩;have hs4:=hb4.size;have hws:=zaT ([119,104,105,108,101,32,40]++zab e++[41,32,123,10]) (HD3.out.below hb4) (by omega) (by have:=HPl.out;rw [hone] at this;simp only [List.length_append,List.length_cons,List.length_nil] at this ⊢;omega);rw [hbst] at hws;have HWs:=zh hws;have HK4:=zh (HK3.out.trans (Kp.of_below (b:=b) hb4 (by omega)));have HO4:=zh (HO3.out.below hb4 (zr _));have HBo4:=zh (HBo3.out.low (hb4.mono (by omega)));have Hb4:=zh (Hb3.out.trans (hb4.mono (by omega)));clear hws hb4 hbst HA0 x0;go_wp2_with fail
    go_at_call 82;refine HWs.out.mono ?_;rintro e5 w5 ⟨rfl,hD5,hk5⟩;have hs5:=hk5.size;have HK5:=zh (HK4.out.trans hk5);have HO5:=zh (hk5.own HO4.out (by omega) (by decide));have hln5:=HLn.out body hb _ w5 b _ (tabs++[9]) (Hb4.out.trans hk5.1) (by omega) (HBo4.out.low hk5.1) hD5 (by have:=Htb.out;rw [List.length_append];show tabs.length+1+D≤100;omega) (by have:=HPl.out;rw [hone] at this;simp only [List.length_append,List.length_cons,List.length_nil] at this ⊢;omega);rw [show bstr (tabs++[9])=bstr tabs++{ data:=#[9] } from (zax tabs [9]).symm] at hln5;have HLl:=zh hln5;have x4:=HO5.out.cell (i:=4) rfl;clear hD5 hk5 hln5 HWs HK4 HO4 Hb4 HBo4;go_wp2_with fail
    go_at_call 54;refine HLl.out.mono ?_;rintro e6 w6 ⟨rfl,hD6,hk6⟩;have hs6:=hk6.size;have HK6:=zh (HK5.out.trans hk6);have hws:=zaT (tabs++[125,10]) hD6 (by omega) (by have:=HPl.out;rw [hone] at this;simp only [List.length_append,List.length_cons,List.length_nil] at this ⊢;omega);rw [show bstr (tabs++[125,10])=bstr tabs++{ data:=#[125,10] } from (zax tabs [125,10]).symm] at hws;have HWs:=zh hws;clear hD6 hk6 hws x4 HLl HK5 HO5;go_wp2_with fail
    go_at_call 82;refine HWs.out.mono ?_;rintro e7 w7 ⟨rfl,hD7,hk7⟩;have HD5:=zh hD7;have HK9:=zh (HK6.out.trans hk7);clear hD7 hk7 HWs;go_wp2_with fail
    go_roundw
    case measure=>show l.length - ((k:Int)+1).toNat < l.length - (k:Int).toNat;omega
    case rel=>exact ⟨k+1,by first | rfl | go_num,by omega,zh (HNx.out _ (by have:=HD5.out;rw [hone];simpa only [List.append_assoc,List.cons_append,List.nil_append] using this)),HK9⟩
   | @ifS _ e body els he hb hl =>
    have hbr:=hbx rfl 4 0 [] [e] body els _ _ _ w3 b _ tabs rfl Hb3.out (by omega) HEs3.out HBo3.out HEl3.out HD3.out Htb.out (by have:=HPl.out;simp only [List.length_append] at this ⊢;omega);have HBr3:=zh hbr;have x1:=HO3.out.cell (i:=1) rfl;have x2:=HO3.out.cell (i:=2) rfl;have x3:=HO3.out.cell (i:=3) rfl;have x4:=HO3.out.cell (i:=4) rfl;have x5:=HO3.out.cell (i:=5) rfl;clear hbr hbx;go_wp2_with fail
    go_at_call 84;refine HBr3.out.mono ?_;rintro e5 w5 ⟨rfl,hD5,hk5⟩;have HD5:=zh hD5;have HK9:=zh (HK3.out.trans hk5);clear hD5 hk5 HBr3 x0 x1 x2 x3 x4 x5;go_wp2_with fail
    go_roundw
    case measure=>show l.length - ((k:Int)+1).toNat < l.length - (k:Int).toNat;omega
    case rel=>exact ⟨k+1,by first | rfl | go_num,by omega,zh (HNx.out _ (by have:=HD5.out;simpa only [List.append_assoc,List.cons_append,List.nil_append] using this)),HK9⟩
theorem zku {w0:World} {B:Nat} (hG:Glob w0) (hgB:glB≤B):∀ (d:Nat),(∀ l,(∀ s ∈ l,ShpT d s)→LnC w0 B (d+1) l)∧(∀ s,ShpT d s→opT s=4→BrC w0 B (d+1) s):=by
 intro d
 induction d with
 | zero =>
  have h0:∀ s,¬ ShpT 0 s:=fun s h=>by cases h
  refine ⟨fun l hl=>?_,fun s hs=>(h0 s hs).elim⟩
  have hn:l=[]:=by
   cases l with
   | nil=>rfl
   | cons x r=>exact (h0 x (hl x (by simp))).elim
  subst hn
  exact zgv (d:=0) (D:=0) hG hgB [] (fun s hs=>by cases hs) (fun h=>(h rfl).elim) (fun h=>(h rfl).elim)
 | succ d ih =>
  obtain ⟨ihl,ihb⟩:=ih
  have hb:∀ s,ShpT (d+1) s→opT s=4→BrC w0 B (d+1+1) s:=by
   intro s hs ho op n name es body els ve vb vl w b bs tabs e hb0 hB hE hBo hEl hbd htb hlen
   cases hs with
   | letS=>cases ho
   | setS=>cases ho
   | putS=>cases ho
   | stopS h=>rcases h with rfl | rfl <;> cases ho
   | whileS=>cases ho
   | @ifS _ e0 body0 els0 he hbd2 hl2 =>
    cases e
    match els,hl2,hEl,hlen with
    | [],_,hEl,hlen=>exact zhz hG hgB he hb0 hB hE hBo hEl hbd htb hlen (ihl body hbd2) rfl
    | [.mk o2 n2 nm2 es2 bo2 el2],hl2,hEl,hlen =>
     by_cases ho2:o2=4
     ·subst ho2;exact zjg hG hgB he hb0 hB hE hBo hEl hbd htb hlen (ihl body hbd2) rfl (ihb _ (hl2 _ (by simp)) rfl)
     ·exact zgP hG hgB he hb0 hB hE hBo hEl hbd htb hlen (ihl body hbd2) rfl ho2 (ihl _ hl2)
    | x :: y :: r,hl2,hEl,hlen=>exact zgQ hG hgB he hb0 hB hE hBo hEl hbd htb hlen (ihl body hbd2) (by simp) (ihl _ hl2)
  exact ⟨fun l hl=>zgv (d:=d) (D:=d+1) hG hgB l hl (fun _=>ihl) (fun _=>hb),hb⟩
theorem zde:∀ {d:Nat} {x:Ex},Shp d x→(zab x).length≤32 * szE x:=by
 intro d x h
 induction h with
 | @num d n h0 h1=>rw [zcq];have:=zjH h0 h1;simp only [szE,szEs];omega
 | @var d s h=>rw [zcr];have:=zcS (zbG h).1;simp only [szE,szEs];omega
 | @comp d n a h0 h1 _ ih=>rw [zdu];have:=zd7 h0 h1;simp only [szE,szEs,List.length_append,List.length_cons,List.length_nil];omega
 | @leaf d op h =>
  rcases h with rfl | rfl
  ·rw [zep];simp only [szE,szEs,List.length_cons,List.length_nil];omega
  ·rw [zeq];simp only [szE,szEs,List.length_cons,List.length_nil];omega
 | @call d op a ho _ ih =>
  rcases ho with rfl | rfl
  ·rw [zdv];simp only [szE,szEs,List.length_append,List.length_cons,List.length_nil];omega
  ·rw [zcN];simp only [szE,szEs,List.length_append,List.length_cons,List.length_nil];omega
 | @pre d op a ho _ ih =>
  have:=zcL (zat a,zab a) 6;simp only at this;rcases ho with rfl | rfl
  ·rw [zcs];simp only [szE,szEs,List.length_append,List.length_cons,List.length_nil];omega
  ·rw [zdm];simp only [szE,szEs,List.length_append,List.length_cons,List.length_nil];omega
 | @bin d op a b h0 h1 _ _ iha ihb =>
  rw [zb0 h0 h1];have h2:=zcL (zat a,zab a) (zby (zar op));have h3:=zcL (zat b,zab b) (zar op+1);have h4:=(zeF h0 h1).1
  simp only [szE,szEs,List.length_append,List.length_cons,List.length_nil] at *
  omega
 | @two d op a b ho _ _ iha ihb =>
  rcases ho with rfl | rfl
  ·rw [zdT];simp only [szE,szEs,List.length_append,List.length_cons,List.length_nil];omega
  ·rw [zdU];simp only [szE,szEs,List.length_append,List.length_cons,List.length_nil];omega
theorem zbL (M a b:Nat):M * (a+b)=M * a+M * b:=Nat.mul_add M a b
theorem zdI {M:Nat} (h:64≤M) (x:Nat):32 * x≤M * x:=Nat.mul_le_mul_right x (by omega)
theorem zeG {M:Nat} {tabs:List UInt8}:∀ (l:List St),(∀ s ∈ l,(oneW tabs s).length+tabs.length+1≤M * szS s)→(zaM tabs l).length≤M * szSs l:=by
 intro l
 induction l with
 | nil=>intro _;rw [zaM];exact Nat.zero_le _
 | cons x r ih =>
  intro h;have h1:=h x (by simp);have h2:=ih fun s hs=>h s (List.mem_cons_of_mem _ hs)
  rw [zaM];simp only [szSs,List.length_append,List.length_cons,List.length_nil];rw [zbL];omega
theorem one_sz:∀ {d:Nat} {s:St},ShpT d s→∀ (M:Nat) (tabs:List UInt8),4 * (tabs.length+d)+64≤M→(oneW tabs s).length+tabs.length+1≤M * szS s:=by
 intro d s h
 induction h with
 | @letS d name e h he =>
  intro M tabs hM;rw [zju];have h1:=zde he;have h2:=zcS (zbG h).1;have h3:=zdI (M:=M) (by omega) (szE e);simp only [szS,szEs,szSs,List.length_append,List.length_cons,List.length_nil,zbL,Nat.mul_one,Nat.mul_zero]
  omega
 | @setS d name e h he =>
  intro M tabs hM;rw [zjv];have h1:=zde he;have h2:=zcS (zbG h).1;have h3:=zdI (M:=M) (by omega) (szE e);simp only [szS,szEs,szSs,List.length_append,List.length_cons,List.length_nil,zbL,Nat.mul_one,Nat.mul_zero]
  omega
 | @putS d n e e' h0 h1 he he' =>
  intro M tabs hM;rw [zjw];have g1:=zde he;have g2:=zde he';have g3:=zd7 h0 h1;have g4:=zdI (M:=M) (by omega) (szE e);have g5:=zdI (M:=M) (by omega) (szE e');simp only [szS,szEs,szSs,List.length_append,List.length_cons,List.length_nil,zbL,Nat.mul_one,Nat.mul_zero]
  omega
 | @stopS d op h =>
  intro M tabs hM;rcases h with rfl | rfl
  ·rw [zhZ];simp only [szS,szEs,szSs,List.length_cons,List.length_nil,zbL,Nat.mul_one,Nat.mul_zero];omega
  ·rw [zh0];simp only [szS,szEs,szSs,List.length_cons,List.length_nil,zbL,Nat.mul_one,Nat.mul_zero];omega
 | @whileS d e body he hb ih =>
  intro M tabs hM;rw [zgX];unfold zaZ;have h1:=zde he;have h3:=zdI (M:=M) (by omega) (szE e);have h4:=zeG (M:=M) (tabs:=tabs++[9]) body fun s hs=>ih s hs M (tabs++[9]) (by rw [List.length_append];simp only [List.length_cons,List.length_nil];omega)
  simp only [szS,szEs,szSs,List.length_append,List.length_cons,List.length_nil,zbL,Nat.mul_one,Nat.mul_zero]
  omega
 | @ifS d e body els he hb hl ihb ihl =>
  intro M tabs hM;have h1:=zde he;have h3:=zdI (M:=M) (by omega) (szE e);have h4:=zeG (M:=M) (tabs:=tabs++[9]) body fun s hs=>ihb s hs M (tabs++[9]) (by rw [List.length_append];simp only [List.length_cons,List.length_nil];omega)
  have h5:=zeG (M:=M) (tabs:=tabs++[9]) els fun s hs=>ihl s hs M (tabs++[9]) (by rw [List.length_append];simp only [List.length_cons,List.length_nil];omega)
  match els,hl,ihl,h5 with
  | [],_,_,_ =>
   rw [zjx];unfold zaZ;simp only [szS,szEs,szSs,List.length_append,List.length_cons,List.length_nil,zbL,Nat.mul_one,Nat.mul_zero]
   omega
  | x :: r,hl,ihl,h5 =>
   by_cases hx:zdM (x :: r)=true
   ·match x,r,hx,hl,ihl with
    | .mk o2 n2 nm2 es2 bo2 el2,[],hx,hl,ihl =>
     have ho2:opT (.mk o2 n2 nm2 es2 bo2 el2)=4:=(show o2=4 by simpa [zdM] using hx);rw [zjy tabs e body _ ho2];unfold zaZ;have h6:=ihl (.mk o2 n2 nm2 es2 bo2 el2) (by simp) M tabs (by omega)
     generalize hq:St.mk o2 n2 nm2 es2 bo2 el2=q at *
     simp only [szS,szEs,szSs,List.length_append,List.length_cons,List.length_nil,zbL,Nat.mul_one,Nat.mul_zero];omega
   ·have hx2:zdM (x :: r)=false:=by simpa using hx
    rw [zgG tabs e body x r hx2];unfold zaZ;simp only [szSs] at h5;rw [zbL] at h5;simp only [szS,szEs,szSs,List.length_append,List.length_cons,List.length_nil,zbL,Nat.mul_one,Nat.mul_zero];omega
theorem zmE {l:List St} (h:∀ s ∈ l,ShpT 40 s):(zaM [] l).length≤224 * szSs l:=zeG l fun s hs=>one_sz (h s hs) 224 [] (by simp)
def zhE (l : List St) : List UInt8 × Int := if zaJ 40 l = true then zdN (zaM [] l) else ([], 2)
theorem zmF {w:World} {B:Nat} {l:List St} {v:Value} (hG:Glob w) (hok:okSs l) (hL:SsL w B l v) (hB:B≤w.heap.size) (hsz:szSs l≤100000000000) :
  Calls Tryz.prog 29 #[v] w (zks (zhE l) w):=by
 have hLw:=hL.mono hB;have HPr:=zh (zem l v w B hok hL hB)
 have HLn:Hid (zaJ 40 l=true→∀ W b,Below w.heap.size w W→b=W.heap.size - 1→w.heap.size≤b→Bd W b b []→Calls Tryz.prog 54 #[.pointer (some ⟨b,0,none⟩),v,.string { data:=#[] }] W (LnE (zaM [] l) b b [] W)):=zh (fun hr W b hb _ hbg hbd=>by
  have hsh:=zk1 40 l hr hok;have hgb:=hG.size;have hbl:=hbd.lt;have hln:=zmE hsh;have hc:=(zku (w0:=W) (B:=b) (hG.below hb hgb) (by omega) 40).1 l hsh v W b [] [] (Below.refl _ _) (by omega) ((hLw.low hb).mono hbg) hbd (by simp) (by simp only [List.length_nil];omega)
  exact hc)
 have hT:zhE l=if zaJ 40 l=true then zdN (zaM [] l) else ([],2):=rfl
 obtain ⟨va,vc,rfl,hvc1,hvc2⟩:=hL.form;clear hG hok hL hLw hsz
 generalize zaM [] l=T at *
 generalize zhE l=R at *
 generalize zaJ 40 l=q at *
 cases q with
 | false =>
  rw [if_neg (by decide)] at hT;have HT:=zh hT;clear hT HLn;go_enter Tryz.func29,Tryz.ntmps29
  go_wp2_with fail
  go_at_call 30;refine HPr.out.mono ?_;rintro e1 w1 ⟨rfl,hb1⟩;have Hb1:=zh hb1;clear hb1;go_wp2_with fail
  exact bodyPost_ret (v:=.tuple #[.string { data:=#[] },.int .i64 2]) (by simp [results,Tryz.results29,go_sem]) rfl ⟨by rw [HT.out];rfl,Hb1.out⟩
 | true =>
  rw [if_pos rfl] at hT;have HT:=zh hT;have HLn2:=zh (HLn.out rfl);clear hT HLn;go_enter Tryz.func29,Tryz.ntmps29
  go_wp2_with fail
  go_at_call 30;refine HPr.out.mono ?_;rintro e1 w1 ⟨rfl,hb1⟩;have hs1:=hb1.size;obtain ⟨W2,hW2,hb2,hbd2,hz2⟩:∃ W2,W2=w1.alloc (.cells #[.pointer none,.slice none 0 0] 65)∧Below w1.heap.size w1 W2∧Bd W2 w1.heap.size w1.heap.size []∧w1.heap.size=W2.heap.size - 1:=⟨_,rfl,(Below.refl _ _).alloc (zr _) _,Lib.IsBuilderF.of (Lib.fresh_isBuilder _ _ w1),by simp⟩;have Hb2:=zh (hb1.trans (hb2.mono hs1));have HC:=zh (HLn2.out W2 w1.heap.size Hb2.out hz2 hs1 hbd2);have HW2:=zh hW2;have hs2:=hb2.size;clear hb1 hW2 hb2 hbd2 hz2 HLn2;go_upto_region 4 with (fail)
  rw [← HW2.out];go_wp2_with fail
  go_at_call 54;refine HC.out.mono ?_;rintro e3 w3 ⟨rfl,hD3,hk3⟩;have hs3:=hk3.size;have hst:=Any.Builder_String_any_k Tryz.lays169 Tryz.Builder_Extra_169 w1.heap.size w1.heap.size T w3 (by have:=hD3;rw [List.nil_append] at this;exact this) (by omega);have HSt:=zh (show Calls Tryz.prog 56 #[.pointer (some ⟨w1.heap.size,0,none⟩)] w3 _ from hst);have Hb3:=zh (Hb2.out.trans (hk3.1.mono hs1));clear hD3 hk3 hst HC;go_wp2_with fail
  go_at_call 56;refine HSt.out.mono ?_;rintro e4 w4 ⟨rfl,-,hb4,-⟩;have Hb4:=zh (Hb3.out.trans (hb4.mono hs1));have HSh:=zh (zhe (bstr T) w4);rw [zaC] at HSh;clear hb4 HSt;have hsw:(zdN T)=(if 16384 < T.length then ([],3) else (T,0)):=rfl;by_cases hTl:16384 < T.length
  ·rw [if_pos hTl] at hsw;rw [if_pos hTl,if_pos hTl] at HSh;have Hsw:=zh hsw;clear hsw;go_wp2_with fail
   go_at_call 55;refine HSh.out.mono ?_;rintro e5 w5 ⟨rfl,rfl⟩;go_wp2_with fail
   exact bodyPost_ret (v:=.tuple #[.string { data:=#[] },.int .i64 3]) (by simp [results,Tryz.results29,go_sem]) rfl ⟨by rw [HT.out,Hsw.out];rfl,Hb4.out⟩
  ·rw [if_neg hTl] at hsw;rw [if_neg hTl,if_neg hTl] at HSh;have Hsw:=zh hsw;clear hsw;go_wp2_with fail
   go_at_call 55;refine HSh.out.mono ?_;rintro e5 w5 ⟨rfl,rfl⟩;go_wp2_with fail
   exact bodyPost_ret (v:=.tuple #[.string (bstr T),.int .i64 0]) (by simp [results,Tryz.results29,go_sem]) rfl ⟨by rw [HT.out,Hsw.out],Hb4.out⟩
end Go.Proofs.YtoaojdobjinhfaaGreatDoor

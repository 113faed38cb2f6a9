/- The program's translator: expr, walked, at each kind of operation. -/
import Derived.Test.YtdeneckmoejcfaaTransXZs
set_option linter.unusedSimpArgs false
set_option linter.unusedVariables false
set_option maxRecDepth 100000
set_option maxHeartbeats 4000000
namespace Go.Proofs.Ytdeneckmoejcfaa
open Go.RowKit

theorem ztN (xs ys:List Ex) (s:TS):tEs (xs++ys) s=tEs ys (tEs xs s):=by
 induction xs generalizing s with
 | nil=>rfl
 | cons x r ih=>rw [List.cons_append,tEs,tEs,ih]
theorem zoj {xs:List Ex} {k:Nat} {x:Ex} (h:xs[k]? = some x) (s:TS):tEs (xs.take (k+1)) s=tE x (tEs (xs.take k) s):=by
 obtain ⟨hlt,rfl⟩:=List.getElem?_eq_some_iff.1 h;rw [List.take_succ_eq_append_getElem hlt,ztN];rfl
theorem znP (xs:List Ex) (k:Nat):szEs (xs.take k)<=szEs xs:=by
 have:=ziA (xs.take k) (xs.drop k);rw [List.take_append_drop] at this;omega
theorem texpr_step (d:Nat) (ih:zoL d) (op:Int) (n:Int) (name:List UInt8) (args:List Ex) (v:Value) (w:World) (t B:Nat) (vc vn:Value) (s:TS) (hf:zbd (d+1) (.mk op n name args)=true) (hok:okE (.mk op n name args)) (hL:EsL w B args v) (hB:B<=w.heap.size) (h:TrC w t B vc vn s) (hn:s.names.length<=900000) (hc:s.code.length+4 * szE (.mk op n name args)<=900000) :
  Calls Try.prog 85 #[.pointer (some ⟨t,0,none⟩),.agg #[.int .u8 op,.int .i64 n,.string (bstr name),v]] w (TrP w t B vc vn (tE (.mk op n name args) s) (.tuple #[])):=by
 obtain ⟨a,cap,rfl,hcc1,hcc2⟩:=hL.form;obtain ⟨W1,hW1,hX1,hb1⟩:∃ W1,W1=w.alloc (.cells #[.int .u8 op,.int .i64 n,.string (bstr name),.slice a args.length cap] 65)/\OwnV W1 w.heap.size 65 [.int .u8 op,.int .i64 n,.string (bstr name),.slice a args.length cap]/\Below w.heap.size w W1:=⟨_,rfl,OwnV.new _ _ _,(yR _ _).alloc (zr _) _⟩;have hs1:=hb1.size;have h1:=h.grown hb1;have HW1:=zh hW1;have HF1:=zh (TrF.of_below t vc vn hb1);obtain ⟨x0,x1,x2,x3⟩:=yc4 hX1;rw [zbd,yC] at hf;obtain ⟨hh,hall⟩:=hf;have hsz:szE (.mk op n name args)=1+name.length / 30+szEs args:=rfl;have hma:=(zn2 hh).1;have hop:=(zn2 hh).2;obtain ⟨sf,HSf⟩:∃ sf,Hid (tE (.mk op n name args) s=sf):=⟨_,zh rfl⟩;rw [HSf.out];obtain ⟨-,-,-,hoks⟩:=hok;have hBB:B<=W1.heap.size:=by omega
 rcases (show op=1∨op=4∨op=5∨(op=21∨op=22)∨op=2∨(op=3∨op=6∨(7<=op/\op≠21/\op≠22)) by omega) with rfl | rfl | rfl | h0 | rfl | h0
 have Hr:Hid (sf=s.put 1 n):=zh (HSf.out.symm.trans rfl);have HP:=zh (znS 1 n W1 t B vc vn s h1 (by omega) (by omega));rotate_left
 have Hr:Hid (sf=s.put 6 0):=zh (HSf.out.symm.trans rfl);have HP:=zh (znS 6 0 W1 t B vc vn s h1 (by omega) (by omega));rotate_left
 have Hr:Hid (sf=s.put 7 0):=zh (HSf.out.symm.trans rfl);have HP:=zh (znS 7 0 W1 t B vc vn s h1 (by omega) (by omega));rotate_left
 obtain ⟨xa,xb,hab⟩:∃ xa xb,args=[xa,xb]:=by
  have hm:args.length=2:=by rcases h0 with rfl | rfl <;> exact hma
  match args,hm with
  | [xa,xb],_=>exact ⟨xa,xb,rfl⟩
 have hsz2:szEs args=szE xa+szE xb:=by rw [hab];simp [szEs]
 have hal:=List.all_eq_true.1 hall;have hoks2:okEs [xa,xb]:=by rw [<- hab];exact hoks
 have HZ:=fun (op:Int) j u=>zqq d ih op n name xa xb (.slice a args.length cap) j u W1 t B vc vn s (hal xa (by rw [hab];simp)) (hal xb (by rw [hab];simp)) hoks2.1 hoks2.2.1 (by rw [<- hab];exact hL.low (hb1.mono hB)) (by omega) h1 hn (by omega)
 have HA:=zh hab;clear hal hoks2 hab;rcases h0 with rfl | rfl
 have Hr:Hid (sf=zoJ (tE xa) (tE xb) 12 0 s):=zh (HSf.out.symm.trans (by rw [HA.out];rfl));have HP:=zh (HZ 21 12 0);clear HZ;rotate_left
 have Hr:Hid (sf=zoJ (tE xa) (tE xb) 13 1 s):=zh (HSf.out.symm.trans (by rw [HA.out];rfl));have HP:=zh (HZ 22 13 1);clear HZ;rotate_left
 ·have HS:=zh (zqS name W1 t B vc vn s h1 (by omega));have Hr:Hid (sf=(s.slot name).put 2 ((zai name s.names 0:Int) - 1)):=zh (HSf.out.symm.trans rfl);have hsc:(s.slot name).code.length=s.code.length:=by rw [TS.slot_code]
  generalize zai name s.names 0=p at *
  generalize s.slot name=s1 at *
  clear ih hL h h1 hb1 hX1 hW1 hall hh hoks hma HSf;go_enter Try.func85,Try.ntmps85
  go_upto_region 1 with (fail)
  rw [<- HW1.out];go_wp2_with fail
  refine HS.out.mono ?_;rintro e2 w2 ⟨rfl,vc2,vn2,hT2,hF2⟩;have HP:=zh (znS 2 ((p:Int) - 1) w2 t B vc2 vn2 s1 hT2 (yT hBB hF2.size) (by omega));have HF2:=zh (HF1.out.trans hF2);clear hT2 hF2;go_wp2_with fail
  refine HP.out.mono ?_;rintro e3 w3 ⟨rfl,vc3,vn3,hT3,hF3⟩;have HT3:=zh hT3;have HF3:=zh (HF2.out.trans hF3);clear hT3 hF3;go_wp2_with fail
  exact yE (results_none rfl _ _ _) rfl ⟨rfl,_,_,by rw [Hr.out];exact HT3.out,HF3.out⟩
 ·skip
  have e1:(op == 1)=false:=by rw [beq_eq_false_iff_ne];omega
  have e2:(op == 2)=false:=by rw [beq_eq_false_iff_ne];omega
  have e4:(op == 4)=false:=by rw [beq_eq_false_iff_ne];omega
  have e5:(op == 5)=false:=by rw [beq_eq_false_iff_ne];omega
  have e21:(op == 21)=false:=by rw [beq_eq_false_iff_ne];omega
  have e22:(op == 22)=false:=by rw [beq_eq_false_iff_ne];omega
  have H:=zh h0;clear h0;have Hoks:=zh hoks;have Hal:=zh (List.all_eq_true.1 hall);have Hih:=zh ih;have HL:=zh hL;have HT0:=zh h;have HT1:=zh h1;have HX1:=zh (And.intro hX1 (h.not (g:=w.heap.size) (zr _)));have Hlaw:Hid (∀ k,ExpsT s (tEs (args.take k) s) (szEs (args.take k)) (znG s.names (args.take k))):=zh (fun k=>zn6 _ s (fun x hx s=>zom d x s (List.all_eq_true.1 hall x (List.mem_of_mem_take hx))));have hle:=zoh args;clear ih hL h h1 hb1 hX1 hW1 hall hh hma hoks;go_enter Try.func85,Try.ntmps85
  go_upto_region 1 with (fail)
  rw [<- HW1.out];go_wp2_with fail
  go_loopw [5,11,12,13,14,15,16,17,18] (fun _ t11 _ _ _ _ _ _ _ wr=>∃ (k:Nat) (vc' vn':Value),k<=args.length/\t11=.int .i64 k/\Hid (TrC wr t B vc' vn' (tEs (args.take k) s))/\Hid (TrF t vc vn w vc' vn' wr)/\Hid (OwnV wr w.heap.size 65 [.int .u8 op,.int .i64 n,.string (bstr name),.slice a args.length cap]/\¬ TrS t vc' vn' w.heap.size)) (fun _ t11 _ _ _ _ _ _ _ _=>args.length - (intOf t11).toNat)
  case atStart=>exact ⟨0,vc,vn,by omega,by first | rfl | go_num,zh HT1.out,zh HF1.out,zh HX1.out⟩
  case round =>
   obtain ⟨k,vc1,vn1,hk,rfl,HT,HF,HX⟩:=hrel;have hBr:=HF.out.below HT0.out hB;have hsr:=HF.out.size;by_cases hkl:k < args.length
   ·have hki:(k:Int) < (args.length:Int):=by omega
    obtain ⟨b,off,op1,n1,name1,args1,aa,ac,rfl,hbB,hbw,hat,c0,c1,c2,c3,hLa⟩:=(HL.out.low hBr).at hkl;obtain ⟨W2,hW2,hX2,hb2⟩:∃ W2,W2=wr.alloc (.cells #[.int .u8 op1,.int .i64 n1,.string (bstr name1),.slice aa args1.length ac] 65)/\OwnV W2 wr.heap.size 65 [.int .u8 op1,.int .i64 n1,.string (bstr name1),.slice aa args1.length ac]/\Below wr.heap.size wr W2:=⟨_,rfl,OwnV.new _ _ _,(yR _ _).alloc (zr _) _⟩;have hlaw:=Hlaw.out k;have hl1:=hlaw.len;have hl2:=zhi hat;have hl3:=znP args (k+1);have hs2:=hb2.size;have HE:=zh (Hih.out op1 n1 name1 args1 _ W2 t B vc1 vn1 (tEs (args.take k) s) (Hal.out _ (List.mem_of_getElem? hat)) (zgR Hoks.out hat) (hLa.low (hb2.mono (by omega))) (by omega) (HT.out.grown hb2) (by rw [hlaw.names];exact hn) (by omega));have Htk:=zh (zoj hat s);rw [<- Htk.out] at HE;have HX2:=zh (And.intro (HX.out.1.below hb2 (zr _)) HX.out.2);have HF2:=zh (HF.out.trans (TrF.of_below t vc1 vn1 hb2));have HW2:=zh hW2;obtain ⟨y0,y1,y2,y3⟩:=yc4 hX2;clear hX2 hb2 hW2 hlaw hl1 hl2 hl3 hat hLa HT HF HX hBr;go_upto_region 5 with (fail)
    rw [<- HW2.out];go_wp2_with fail
    refine HE.out.mono ?_;rintro e3 w3 ⟨rfl,vc3,vn3,hT3,hF3⟩;have HT3:=zh hT3;have HX3:=zh (hF3.own HX2.out.1 HX2.out.2);have HF3:=zh (HF2.out.trans hF3);clear hT3 hF3 HE HX2 HF2;go_wp2_with fail
    go_roundw
    case rel=>exact ⟨k+1,vc3,vn3,by omega,by go_num,HT3,HF3,HX3⟩
    case measure=>simp [intOf];omega
   ·have hki:¬ (k:Int) < (args.length:Int):=by omega
    have hke:k=args.length:=by omega
    have HT2:Hid (TrC wr t B vc1 vn1 (tEs args s)):=zh (by have:=HT.out;rw [hke,List.take_length] at this;exact this);have hll:(tEs args s).code.length<=s.code.length+4 * szEs args:=by have:=(Hlaw.out args.length).len;rw [List.take_length] at this;exact this
    obtain ⟨x0,x1⟩:=yc2 HX.out.1;rcases H.out with rfl | rfl | h7
    have Hr:Hid (sf=(tEs args s).put 4 n):=zh (HSf.out.symm.trans rfl);have HP:=zh (znS 4 n wr t B vc1 vn1 (tEs args s) HT2.out (by omega) (by omega));rotate_left
    have Hr:Hid (sf=(tEs args s).put 8 0):=zh (HSf.out.symm.trans rfl);have HP:=zh (znS 8 0 wr t B vc1 vn1 (tEs args s) HT2.out (by omega) (by omega));rotate_left
    have Hr:Hid (sf=(tEs args s).put 9 op):=zh (HSf.out.symm.trans (by rw [tE,yN (by omega),yN (by omega),yN (by omega),yN (by omega),yN (by omega),yN (by omega),yN (by omega),yN (by omega)]));have HP:=zh (znS 9 op wr t B vc1 vn1 (tEs args s) HT2.out (by omega) (by omega));have e3:(op == 3)=false:=by rw [beq_eq_false_iff_ne];omega
    have e6:(op == 6)=false:=by rw [beq_eq_false_iff_ne];omega
    have hop0:0<=op:=by omega
    clear h7
    all_goals
     clear HT HT2 hBr hke;go_wp2_with fail
     refine HP.out.mono ?_;rintro e3 w3 ⟨rfl,vc3,vn3,hT3,hF3⟩;have HT3:=zh hT3;have HF3:=zh (HF.out.trans hF3);clear hT3 hF3;go_wp2_with fail
     exact yE (results_none rfl _ _ _) rfl ⟨rfl,_,_,by rw [Hr.out];exact HT3.out,HF3.out⟩
 all_goals
  clear ih hL h h1 hb1 hX1 hW1 hall hh hma hoks HSf;go_enter Try.func85,Try.ntmps85
  go_upto_region 1 with (fail)
  rw [<- HW1.out];go_wp2_with fail
  refine HP.out.mono ?_;rintro e2 w2 ⟨rfl,vc2,vn2,hT2,hF2⟩;have HT2:=zh hT2;have HF2:=zh (HF1.out.trans hF2);clear hT2 hF2;go_wp2_with fail
  exact yE (results_none rfl _ _ _) rfl ⟨rfl,_,_,by rw [Hr.out];exact HT2.out,HF2.out⟩
theorem zou:∀ d,zoL d:=by
 intro d
 induction d with
 | zero=>intro op n name args v w t B vc vn s h;cases h
 | succ d ih =>
  intro op n name args v w t B vc vn s hf hok hL hB h hn hc;exact texpr_step d ih op n name args v w t B vc vn s hf hok hL hB h hn hc

def zoC (d : Nat) : Prop := ∀ (l : List St) (v : Value) (w : World) (t B : Nat) (vc vn : Value) (s : TS), zaJ d l = true -> okSs l -> SsL w B l v -> B <= w.heap.size -> TrC w t B vc vn s -> s.names.length + szSs l <= 900000 -> s.code.length + 4 * szSs l <= 900000 -> s.locals <= 900000 ->
  Calls Try.prog 41 #[.pointer (some ⟨t, 0, none⟩), v] w (TrP w t B vc vn ((tSs l s).back s.names.length) (.tuple #[]))
theorem zqR {s s':TS} {z:Nat} {r:CR (znA × Nat)} (h:LisT s s' z r):(s'.back s.names.length).names.length=s.names.length:=by
 obtain ⟨x,hx,-⟩:=h.names;rw [TS.back_names hx]
theorem zsm (d:Nat) (ih:zoC d) (op n:Int) (name:List UInt8) (es:List Ex) (body els:List St) (ve vb vl:Value) (w:World) (t B:Nat) (vc vn:Value) (s:TS) (hf:zh2 d (.mk op n name es body els)=true) (hok:okS (.mk op n name es body els)) (hE:EsL w B es ve) (hLb:SsL w B body vb) (hLl:SsL w B els vl) (hB:B<=w.heap.size) (h:TrC w t B vc vn s) (hn:s.names.length+szS (.mk op n name es body els)<=900000) (hc:s.code.length+4 * szS (.mk op n name es body els)<=900000) (hlo:s.locals<=900000) :
  Calls Try.prog 62 #[.pointer (some ⟨t,0,none⟩),.agg #[.int .u8 op,.int .i64 n,.string (bstr name),ve,vb,vl]] w (TrP w t B vc vn (tS (.mk op n name es body els) s) (.tuple #[])):=by
 obtain ⟨ae,ce,rfl,hlce,hlce2⟩:=hE.form;obtain ⟨ab,cb,rfl,_,_⟩:=hLb.form;obtain ⟨al,cl,rfl,_,_⟩:=hLl.form;obtain ⟨ac,capc,rfl,_,_⟩:=Sl.form (Sl.of_own h.code);obtain ⟨W1,hW1,hX1,hb1⟩:∃ W1,W1=w.alloc (.cells #[.int .u8 op,.int .i64 n,.string (bstr name),.slice ae es.length ce,.slice ab body.length cb,.slice al els.length cl] 59)/\OwnV W1 w.heap.size 59 [.int .u8 op,.int .i64 n,.string (bstr name),.slice ae es.length ce,.slice ab body.length cb,.slice al els.length cl]/\Below w.heap.size w W1:=⟨_,rfl,OwnV.new _ _ _,(yR _ _).alloc (zr _) _⟩;have hs1:=hb1.size;have h1:=h.grown hb1;have HW1:=zh hW1;have HF1:=zh (TrF.of_below t (.slice ac s.code.length capc) vn hb1);have x3:=hX1.cell (i:=3) rfl;have z0:=h1.blk.cell (i:=0) rfl;unfold zh2 at hf;simp only [yC] at hf;obtain ⟨⟨hrb,hrl⟩,hh,hes⟩:=hf;have hsz:szS (.mk op n name es body els)=1+name.length / 30+szEs es+szSs body+szSs els:=rfl;obtain ⟨-,-,-,hoke,hokb,hokl⟩:=hok;have Hoks:=zh hoke;have Hal:=zh (List.all_eq_true.1 hes);have HL:=zh hE;have HT0:=zh h;have HT1:=zh h1;have HX1:=zh (And.intro hX1 (h.not (g:=w.heap.size) (zr _)));have Hlaw:Hid (∀ k,ExpsT s (tEs (es.take k) s) (szEs (es.take k)) (znG s.names (es.take k))):=zh (fun k=>zn6 _ s (fun x hx s=>zom 40 x s (List.all_eq_true.1 hes x (List.mem_of_mem_take hx))))
 have Hnb:Hid ((tEs es s).names=s.names/\(tEs es s).locals=s.locals/\(tEs es s).code.length<=s.code.length+4 * szEs es):=zh (by
  have h:=Hlaw.out es.length;rw [List.take_length] at h
  exact ⟨h.names,h.locals,h.len⟩)
 have hle:=zoh es;have Hih:=zh ih;have Hokb:=zh hokb;have Hokl:=zh hokl;have Hrb:=zh hrb;have Hrl:=zh hrl;have HLb:=zh hLb;have HLl:=zh hLl;have hop:1<=op/\op<=7:=(zpT hh).1;obtain ⟨sf,HSf⟩:∃ sf,Hid (tS (.mk op n name es body els) s=sf):=⟨_,zh rfl⟩;rw [HSf.out];clear ih hE hLb hLl h h1 hb1 hX1 hW1 hrb hrl hh hes hoke hokb hokl;go_enter Try.func62,Try.ntmps62
 go_upto_region 1 with (fail)
 rw [<- HW1.out];go_wp2_with fail
 go_loopw [6,19,20,21,22,23,24,25,26] (fun _ t19 _ _ _ _ _ _ _ wr=>∃ (k:Nat) (vc' vn':Value),k<=es.length/\t19=.int .i64 k/\Hid (TrC wr t B vc' vn' (tEs (es.take k) s))/\Hid (TrF t (.slice ac s.code.length capc) vn w vc' vn' wr)/\Hid (OwnV wr w.heap.size 59 [.int .u8 op,.int .i64 n,.string (bstr name),.slice ae es.length ce,.slice ab body.length cb,.slice al els.length cl]/\¬ TrS t vc' vn' w.heap.size)) (fun _ t19 _ _ _ _ _ _ _ _=>es.length - (intOf t19).toNat)
 case atStart=>exact ⟨0,_,vn,by omega,by first | rfl | go_num,zh HT1.out,zh HF1.out,zh HX1.out⟩
 case round =>
  obtain ⟨k,vc1,vn1,hk,rfl,HT,HF,HX⟩:=hrel;have hBr:=HF.out.below HT0.out hB;have hsr:=HF.out.size;by_cases hkl:k < es.length
  ·have hki:(k:Int) < (es.length:Int):=by omega
   obtain ⟨b,off,op1,n1,name1,args1,aa,ac,rfl,hbB,hbw,hat,c0,c1,c2,c3,hLa⟩:=(HL.out.low hBr).at hkl;obtain ⟨W2,hW2,hX2,hb2⟩:∃ W2,W2=wr.alloc (.cells #[.int .u8 op1,.int .i64 n1,.string (bstr name1),.slice aa args1.length ac] 65)/\OwnV W2 wr.heap.size 65 [.int .u8 op1,.int .i64 n1,.string (bstr name1),.slice aa args1.length ac]/\Below wr.heap.size wr W2:=⟨_,rfl,OwnV.new _ _ _,(yR _ _).alloc (zr _) _⟩;have hlaw:=Hlaw.out k;have hl1:=hlaw.len;have hl2:=zhi hat;have hl3:=znP es (k+1);have hs2:=hb2.size;have HE:=zh (zou 40 op1 n1 name1 args1 _ W2 t B vc1 vn1 (tEs (es.take k) s) (Hal.out _ (List.mem_of_getElem? hat)) (zgR Hoks.out hat) (hLa.low (hb2.mono (by omega))) (by omega) (HT.out.grown hb2) (by rw [hlaw.names];omega) (by omega));have Htk:=zh (zoj hat s);rw [<- Htk.out] at HE;have HX2:=zh (And.intro (HX.out.1.below hb2 (zr _)) HX.out.2);have HF2:=zh (HF.out.trans (TrF.of_below t vc1 vn1 hb2));have HW2:=zh hW2;obtain ⟨y0,y1,y2,y3⟩:=yc4 hX2;clear hX2 hb2 hW2 hlaw hl1 hl2 hl3 hat hLa HT HF HX hBr;go_upto_region 5 with (fail)
   rw [<- HW2.out];go_wp2_with fail
   refine HE.out.mono ?_;rintro e3 w3 ⟨rfl,vc3,vn3,hT3,hF3⟩;have HT3:=zh hT3;have HX3:=zh (hF3.own HX2.out.1 HX2.out.2);have HF3:=zh (HF2.out.trans hF3);clear hT3 hF3 HE HX2 HF2;go_wp2_with fail
   go_roundw
   case rel=>exact ⟨k+1,vc3,vn3,by omega,by go_num,HT3,HF3,HX3⟩
   case measure=>simp [intOf];omega
  ·have hki:¬ (k:Int) < (es.length:Int):=by omega
   have hke:k=es.length:=by omega
   have HT2:Hid (TrC wr t B vc1 vn1 (tEs es s)):=zh (by have:=HT.out;rw [hke,List.take_length] at this;exact this);have hll:(tEs es s).code.length<=s.code.length+4 * szEs es:=Hnb.out.2.2;have hnl:(tEs es s).names.length=s.names.length:=by rw [Hnb.out.1]
   have hlc:(tEs es s).locals=s.locals:=Hnb.out.2.1;have x0:=HX.out.1.cell (i:=0) rfl;have x1:=HX.out.1.cell (i:=1) rfl;have x2:=HX.out.1.cell (i:=2) rfl;have x4:=HX.out.1.cell (i:=4) rfl;have x5:=HX.out.1.cell (i:=5) rfl;have hBr2:B<=wr.heap.size:=by omega
   clear HT hke;rcases (show op=1∨op=2∨op=3∨op=6∨op=7∨op=4∨op=5 by omega) with rfl | rfl | rfl | rfl | rfl | h45
   ·have Hr:Hid (sf=((tEs es s).letN name).put 3 (tEs es s).names.length):=zh (HSf.out.symm.trans rfl);clear HSf;have HP:=zh (ztK name wr t B vc1 vn1 (tEs es s) HT2.out hBr2 (by omega) (by omega));have HlenN:Hid (((tEs es s).letN name).code.length=(tEs es s).code.length):=zh (by rw [TS.letN_code]);clear HT2;go_wp2_with fail
    refine HP.out.mono ?_;rintro e3 w3 ⟨rfl,vc3,vn3,hT3,hF3⟩;have HP2:=zh (znS 3 (s.names.length:Nat) w3 t B vc3 vn3 _ hT3 (yT hBr2 hF3.size) (by rw [HlenN.out];omega));have HF3:=zh (HF.out.trans hF3);clear hT3 hF3 HP;go_wp2_with fail
    refine HP2.out.mono ?_;rintro e4 w4 ⟨rfl,vc4,vn4,hT4,hF4⟩;have HT4:=zh hT4;have HF4:=zh (HF3.out.trans hF4);clear hT4 hF4;go_wp2_with fail
    exact yE (results_none rfl _ _ _) rfl ⟨rfl,_,_,by rw [Hr.out,hnl];exact HT4.out,HF4.out⟩
   ·have Hr:Hid (sf=((tEs es s).slot name).put 3 ((zai name (tEs es s).names 0:Int) - 1)):=zh (HSf.out.symm.trans rfl);clear HSf;have HP:=zh (zqS name wr t B vc1 vn1 (tEs es s) HT2.out (by omega));have HlenN:Hid (((tEs es s).slot name).code.length=(tEs es s).code.length):=zh (by rw [TS.slot_code]);clear HT2
    generalize zai name (tEs es s).names 0=p at *
    go_wp2_with fail
    refine HP.out.mono ?_;rintro e3 w3 ⟨rfl,vc3,vn3,hT3,hF3⟩;have HP2:=zh (znS 3 ((p:Int) - 1) w3 t B vc3 vn3 _ hT3 (yT hBr2 hF3.size) (by rw [HlenN.out];omega));have HF3:=zh (HF.out.trans hF3);clear hT3 hF3 HP;go_wp2_with fail
    refine HP2.out.mono ?_;rintro e4 w4 ⟨rfl,vc4,vn4,hT4,hF4⟩;have HT4:=zh hT4;have HF4:=zh (HF3.out.trans hF4);clear hT4 hF4;go_wp2_with fail
    exact yE (results_none rfl _ _ _) rfl ⟨rfl,_,_,by rw [Hr.out];exact HT4.out,HF4.out⟩
   ·have Hr:Hid (sf=(tEs es s).put 5 n):=zh (HSf.out.symm.trans rfl);clear HSf;have HP:=zh (znS 5 n wr t B vc1 vn1 (tEs es s) HT2.out hBr2 (by omega));clear HT2;go_wp2_with fail
    refine HP.out.mono ?_;rintro e3 w3 ⟨rfl,vc3,vn3,hT3,hF3⟩;have HT3:=zh hT3;have HF3:=zh (HF.out.trans hF3);clear hT3 hF3;go_wp2_with fail
    exact yE (results_none rfl _ _ _) rfl ⟨rfl,_,_,by rw [Hr.out];exact HT3.out,HF3.out⟩
   ·have Hr:Hid (sf=(tEs es s).put 14 0):=zh (HSf.out.symm.trans rfl);clear HSf;have HP:=zh (znS 14 0 wr t B vc1 vn1 (tEs es s) HT2.out hBr2 (by omega));clear HT2;go_wp2_with fail
    refine HP.out.mono ?_;rintro e3 w3 ⟨rfl,vc3,vn3,hT3,hF3⟩;have HT3:=zh hT3;have HF3:=zh (HF.out.trans hF3);clear hT3 hF3;go_wp2_with fail
    exact yE (results_none rfl _ _ _) rfl ⟨rfl,_,_,by rw [Hr.out];exact HT3.out,HF3.out⟩
   ·have Hr:Hid (sf=(tEs es s).put 15 0):=zh (HSf.out.symm.trans rfl);clear HSf;have HP:=zh (znS 15 0 wr t B vc1 vn1 (tEs es s) HT2.out hBr2 (by omega));clear HT2;go_wp2_with fail
    refine HP.out.mono ?_;rintro e3 w3 ⟨rfl,vc3,vn3,hT3,hF3⟩;have HT3:=zh hT3;have HF3:=zh (HF.out.trans hF3);clear hT3 hF3;go_wp2_with fail
    exact yE (results_none rfl _ _ _) rfl ⟨rfl,_,_,by rw [Hr.out];exact HT3.out,HF3.out⟩
   ·rcases h45 with rfl | rfl
    all_goals
     have Hlb:Hid (LisT ((tEs es s).put 12 0) (tSs body ((tEs es s).put 12 0)) (szSs body) (znQ ((tEs es s).put 12 0).names body)):=zh (zpn d body _ Hrb.out);have p1:((tEs es s).put 12 0).code.length=(tEs es s).code.length+1:=by simp [TS.put_code]
     have p1n:((tEs es s).put 12 0).names.length=s.names.length:=hnl;have p1l:((tEs es s).put 12 0).locals=s.locals:=hlc;have q1:=Hlb.out.len;have q1':=Hlb.out.le;have q1l:=Hlb.out.loc;have Hq1n:Hid (((tSs body ((tEs es s).put 12 0)).back ((tEs es s).put 12 0).names.length).names.length=s.names.length):=zh ((zqR Hlb.out).trans p1n);have HKb:Hid (∀ (W:World) (vc' vn':Value),Below B w W->B<=W.heap.size->TrC W t B vc' vn' ((tEs es s).put 12 0)->Calls Try.prog 41 #[.pointer (some ⟨t,0,none⟩),.slice ab body.length cb] W (TrP W t B vc' vn' ((tSs body ((tEs es s).put 12 0)).back ((tEs es s).put 12 0).names.length) (.tuple #[]))):=zh (fun W vc' vn' hb hBW hT=>Hih.out body _ W t B vc' vn' _ Hrb.out Hokb.out (HLb.out.low hb) hBW hT (by omega) (by omega) (by omega));rw [show ((tEs es s).put 12 0).names.length=(tEs es s).names.length from rfl] at HKb Hq1n;have HLa:=zh (zoU 12 wr t B vc1 vn1 (tEs es s) HT2.out hBr2 (by omega));clear HT2;go_wp2_with fail
     refine HLa.out.mono ?_;rintro e3 w3 ⟨k1,k2,rfl,hk1,hk2,vc3,vn3,hT3,hF3,hn1,hn2⟩;have HX3:=zh (hF3.own HX.out.1 HX.out.2);have HF3:=zh (HF.out.trans hF3);have HK3:=zh (And.intro (And.intro hk1 hn1) (And.intro hk2 hn2));have hs3:=hF3.size;have HB3:=zh (HKb.out w3 vc3 vn3 (HF3.out.below HT0.out hB) (by omega) hT3);have x4:=HX3.out.1.cell (i:=4) rfl;clear hT3 hF3 hk1 hk2 hn1 hn2 HX HF HLa HKb;go_wp2_with fail
     refine HB3.out.mono ?_;rintro e4 w4 ⟨rfl,vc4,vn4,hT4,hF4⟩;have HX4:=zh (hF4.own HX3.out.1 HX3.out.2);have HK4:=zh (And.intro (hF4.own HK3.out.1.1 HK3.out.1.2) (hF4.own HK3.out.2.1 HK3.out.2.2));have HF4:=zh (HF3.out.trans hF4);have HT4:=zh hT4;have hs4:=hF4.size;have x5:=HX4.out.1.cell (i:=5) rfl;clear hT4 hF4 HB3 HX3 HF3 HK3 x4;obtain ⟨s4,hs4e⟩:∃ s4,s4=(tSs body ((tEs es s).put 12 0)).back (tEs es s).names.length:=⟨_,rfl⟩;have l4:s4.code.length=(tSs body ((tEs es s).put 12 0)).code.length:=by rw [hs4e];rfl
     have l4l:s4.locals=(tSs body ((tEs es s).put 12 0)).locals:=by rw [hs4e];rfl
     rw [<- hs4e] at HT4 Hq1n
    ·have Hr:Hid (sf=if els≠[] then (((tSs els ((((tSs body ((tEs es s).put 12 0)).back (tEs es s).names.length).put 11 0).patch (tEs es s).code.length)).back (tEs es s).names.length)).patch ((tSs body ((tEs es s).put 12 0)).code.length) else ((tSs body ((tEs es s).put 12 0)).back (tEs es s).names.length).patch (tEs es s).code.length):=zh (HSf.out.symm.trans rfl);clear HSf;by_cases hel:els=[]
     ·have hel0:¬ ((els.length:Int) > 0):=by rw [hel];simp
      have hel1:(els.length:Int)<=0:=by rw [hel];simp
      have Hr2:Hid (sf=s4.patch (tEs es s).code.length):=zh (by rw [Hr.out,hs4e,yN (by simp [hel])]);have hel2:¬ 0 < els.length:=by rw [hel];simp
      clear Hr hs4e hel;have HL5:=zh (zoy k1 k2 (tEs es s).code.length w4 t B vc4 vn4 s4 HT4.out (by omega) (by omega) HK4.out.1.1 HK4.out.2.1);clear HT4;go_wp2_with fail
      refine HL5.out.mono ?_;rintro e6 w6 ⟨rfl,vc6,vn6,hT6,hF6⟩;have HT6:=zh hT6;have HF6:=zh (HF4.out.trans hF6);clear hT6 hF6 HL5 HK4 HF4;go_wp2_with fail
      exact yE (results_none rfl _ _ _) rfl ⟨rfl,_,_,by rw [Hr2.out];exact HT6.out,HF6.out⟩
     ·have hel2:0 < els.length:=List.length_pos_iff.2 hel;have hel0:(els.length:Int) > 0:=by omega
      have Hr2:Hid (sf=((tSs els ((s4.put 11 0).patch (tEs es s).code.length)).back (tEs es s).names.length).patch s4.code.length):=zh (by rw [Hr.out,yP hel,l4,hs4e]);clear Hr hs4e hel;have HL5:=zh (zoU 11 w4 t B vc4 vn4 s4 HT4.out (by omega) (by omega));clear HT4;go_wp2_with fail
      refine HL5.out.mono ?_;rintro e5 w5 ⟨m1,m2,rfl,hm1,hm2,vc5,vn5,hT5,hF5,hq1,hq2⟩;have p5:(s4.put 11 0).code.length=s4.code.length+1:=by simp [TS.put_code]
      have HX5:=zh (hF5.own HX4.out.1 HX4.out.2);have HK5:=zh (And.intro (hF5.own HK4.out.1.1 HK4.out.1.2) (hF5.own HK4.out.2.1 HK4.out.2.2));have HM5:=zh (And.intro (And.intro hm1 hq1) (And.intro hm2 hq2));have HF5:=zh (HF4.out.trans hF5);have hs5:=hF5.size;have HL6:=zh (zoy k1 k2 (tEs es s).code.length w5 t B vc5 vn5 (s4.put 11 0) hT5 (by omega) (by omega) HK5.out.1.1 HK5.out.2.1);clear hT5 hF5 HL5 HK4 HF4 HX4 hm1 hm2 hq1 hq2;go_wp2_with fail
      refine HL6.out.mono ?_;rintro e6 w6 ⟨rfl,vc6,vn6,hT6,hF6⟩;obtain ⟨s6,hs6e⟩:∃ s6,s6=(s4.put 11 0).patch (tEs es s).code.length:=⟨_,rfl⟩;have p6:s6.code.length=s4.code.length+1:=by rw [hs6e];show (setA _ _ _).length=_;rw [zoi,p5]
      have p6n:s6.names.length=s.names.length:=by rw [hs6e];exact Hq1n.out
      have p6l:s6.locals=s4.locals:=by rw [hs6e];rfl
      rw [<- hs6e] at hT6 Hr2;have Hlc:Hid (LisT s6 (tSs els s6) (szSs els) (znQ s6.names els)):=zh (zpn d els _ Hrl.out);have r1:=Hlc.out.len;have r1':=Hlc.out.le;have Hr3:Hid (sf=((tSs els s6).back s6.names.length).patch s4.code.length):=zh (by rw [Hr2.out,p6n,hnl]);have HX6:=zh (hF6.own HX5.out.1 HX5.out.2);have HM6:=zh (And.intro (hF6.own HM5.out.1.1 HM5.out.1.2) (hF6.own HM5.out.2.1 HM5.out.2.2));have HF6:=zh (HF5.out.trans hF6);have hs6:=hF6.size;have x5:=HX6.out.1.cell (i:=5) rfl;have HE6:=zh (Hih.out els _ w6 t B vc6 vn6 s6 Hrl.out Hokl.out (HLl.out.low (HF6.out.below HT0.out hB)) (by omega) hT6 (by omega) (by omega) (by omega));clear hT6 hF6 HL6 HM5 HF5 HX5 HK5 Hr2 hs6e Hlc;go_wp2_with fail
      refine HE6.out.mono ?_;rintro e7 w7 ⟨rfl,vc7,vn7,hT7,hF7⟩;have p7:((tSs els s6).back s6.names.length).code.length=(tSs els s6).code.length:=rfl;have HM7:=zh (And.intro (hF7.own HM6.out.1.1 HM6.out.1.2) (hF7.own HM6.out.2.1 HM6.out.2.2));have HF7:=zh (HF6.out.trans hF7);have HL7:=zh (zoy m1 m2 s4.code.length w7 t B vc7 vn7 _ hT7 (by omega) (by omega) HM7.out.1.1 HM7.out.2.1);clear hT7 hF7 HE6 HM6 HF6 HX6;go_wp2_with fail
      refine HL7.out.mono ?_;rintro e8 w8 ⟨rfl,vc8,vn8,hT8,hF8⟩;have HT8:=zh hT8;have HF8:=zh (HF7.out.trans hF8);clear hT8 hF8 HL7 HM7 HF7;go_wp2_with fail
      exact yE (results_none rfl _ _ _) rfl ⟨rfl,_,_,by rw [Hr3.out];exact HT8.out,HF8.out⟩
    ·have Hr:Hid (sf=(((tSs body ((tEs es s).put 12 0)).back (tEs es s).names.length).put 11 s.code.length).patch (tEs es s).code.length):=zh (HSf.out.symm.trans rfl);clear HSf;have Hr2:Hid (sf=(s4.put 11 s.code.length).patch (tEs es s).code.length):=zh (by rw [Hr.out,hs4e]);clear Hr hs4e;have HP:=zh (znS 11 s.code.length w4 t B vc4 vn4 s4 HT4.out (by omega) (by omega));clear HT4;go_wp2_with fail
     refine HP.out.mono ?_;rintro e5 w5 ⟨rfl,vc5,vn5,hT5,hF5⟩;have p5:(s4.put 11 s.code.length).code.length=s4.code.length+1:=by simp [TS.put_code]
     have HK5:=zh (And.intro (hF5.own HK4.out.1.1 HK4.out.1.2) (hF5.own HK4.out.2.1 HK4.out.2.2));have HF5:=zh (HF4.out.trans hF5);have HL5:=zh (zoy k1 k2 (tEs es s).code.length w5 t B vc5 vn5 _ hT5 (by omega) (by omega) HK5.out.1.1 HK5.out.2.1);clear hT5 hF5 HP HK4 HF4;go_wp2_with fail
     refine HL5.out.mono ?_;rintro e6 w6 ⟨rfl,vc6,vn6,hT6,hF6⟩;have HT6:=zh hT6;have HF6:=zh (HF5.out.trans hF6);clear hT6 hF6 HL5 HK5 HF5;go_wp2_with fail
     exact yE (results_none rfl _ _ _) rfl ⟨rfl,_,_,by rw [Hr2.out];exact HT6.out,HF6.out⟩

theorem ztM (xs ys:List St) (s:TS):tSs (xs++ys) s=tSs ys (tSs xs s):=by
 induction xs generalizing s with
 | nil=>rfl
 | cons x r ih=>rw [List.cons_append,tSs,tSs,ih]
theorem ztj {xs:List St} {k:Nat} {x:St} (h:xs[k]? = some x) (s:TS):tSs (xs.take (k+1)) s=tS x (tSs (xs.take k) s):=by
 obtain ⟨hlt,rfl⟩:=List.getElem?_eq_some_iff.1 h;rw [List.take_succ_eq_append_getElem hlt,ztM];rfl
theorem zqV (xs:List St) (k:Nat):szSs (xs.take k)<=szSs xs:=by
 have:=ziC (xs.take k) (xs.drop k);rw [List.take_append_drop] at this;omega
theorem zrN {w:World} {base:Nat} {e:TypeId} {a:Option Addr} {m cap n:Nat} {xs:List Value} (h:w.ownsRow base e 1 (.slice a m cap) m xs) (hn:n<=m):w.ownsRow base e 1 (.slice a n cap) n (xs.take n):=by
 obtain ⟨h1,h2⟩:=h;refine ⟨by rw [List.length_take];omega,?_⟩;rcases h2 with ⟨hv,h0⟩ | ⟨g,cp,cur,hv,hg,hh,hnc,hm,hs,ht⟩
 ·cases hv;exact .inl ⟨by rw [show n=0 by omega],by omega⟩
 ·cases hv;exact .inr ⟨g,cap,cur,rfl,hg,hh,by omega,hm,hs,by rw [<- ht,List.take_take];congr 1;omega⟩
theorem TrC.shrunk {w:World} {t B:Nat} {vc:Value} {a:Option Addr} {m cap n:Nat} {s:TS} (h:TrC w t B vc (.slice a m cap) s) (hm:m=s.names.length) (hn:n<=m) :
  TrC (w.setCell ⟨t,4,none⟩ (.slice a n cap)) t B vc (.slice a n cap) (s.back n)/\TrF t vc (.slice a m cap) w vc (.slice a n cap) (w.setCell ⟨t,4,none⟩ (.slice a n cap)):=by
 have hob:(Value.slice a n cap).ownBlock=(Value.slice a m cap).ownBlock:=by cases a <;> rfl
 have hr:=h.names;rw [<- hm] at hr;have hsh:=zrN hr hn;rw [<- List.map_take] at hsh;have hl:(s.names.take n).length=n:=by rw [List.length_take];omega
 refine ⟨⟨h.blk.set 4 _,zdB h.code (fun g hg e=>by subst e;exact h.tc hg) _ _,?_,h.tB,h.tc,by rw [hob];exact h.tn,by rw [hob];exact h.cn⟩,(Only.refl _ _).setIn (.inl rfl) _,fun k hk=>.inl (by unfold TrS at hk ⊢;rw [hob] at hk;exact hk)⟩;show (w.setCell ⟨t,4,none⟩ (.slice a n cap)).ownsRow B _ 1 _ (s.names.take n).length ((s.names.take n).map strT);rw [hl];exact zdB hsh (fun g hg e=>by subst e;rw [hob] at hg;exact h.tn hg) _ _
theorem zrO (d:Nat) (ih:zoC d):zoC (d+1):=by
 intro l v w t B vc vn s hf hok hL hB h hn hc hlo;obtain ⟨a,cap,rfl,hcc1,hcc2⟩:=hL.form;obtain ⟨ac,capc,rfl,_,_⟩:=Sl.form (Sl.of_own h.code);obtain ⟨an,capn,rfl,_,_⟩:=Sl.form (Sl.of_own h.names);have z4:=h.blk.cell (i:=4) rfl;rw [zfn] at hf;have Hal:=zh (List.all_eq_true.1 hf);have Hoks:=zh hok;have HL:=zh hL;have HT0:=zh h;have Hih:=zh ih;have Hlaw:Hid (∀ k,LisT s (tSs (l.take k) s) (szSs (l.take k)) (znQ s.names (l.take k))):=zh (fun k=>zpn (d+1) _ s (by rw [zfn,List.all_eq_true];exact fun x hx=>Hal.out x (List.mem_of_mem_take hx)));have hle:=zs7 l;clear ih hf hok hL h;go_enter Try.func41,Try.ntmps41
 go_wp2_with fail
 go_loopw [6,14,15,16,17,18,19,20,21] (fun _ t14 _ _ _ _ _ _ _ wr=>∃ (k:Nat) (vc' vn':Value),k<=l.length/\t14=.int .i64 k/\Hid (TrC wr t B vc' vn' (tSs (l.take k) s))/\Hid (TrF t (.slice ac s.code.length capc) (.slice an s.names.length capn) w vc' vn' wr)) (fun _ t14 _ _ _ _ _ _ _ _=>l.length - (intOf t14).toNat)
 case atStart=>exact ⟨0,_,_,by omega,by first | rfl | go_num,zh HT0.out,zh (TrF.refl _ _ _ _)⟩
 case round =>
  obtain ⟨k,vc1,vn1,hk,rfl,HT,HF⟩:=hrel;have hBr:=HF.out.below HT0.out hB;have hsr:=HF.out.size;have hlaw:=Hlaw.out k;by_cases hkl:k < l.length
  ·have hki:(k:Int) < (l.length:Int):=by omega
   obtain ⟨b,off,op,n,name,es,body,els,ae,ce,ab,cb,al,cl,rfl,hbB,hbw,hat,c0,c1,c2,c3,c4,c5,hE,hLb,hLl⟩:=(HL.out.low hBr).at hkl;obtain ⟨W2,hW2,hX2,hb2⟩:∃ W2,W2=wr.alloc (.cells #[.int .u8 op,.int .i64 n,.string (bstr name),.slice ae es.length ce,.slice ab body.length cb,.slice al els.length cl] 59)/\OwnV W2 wr.heap.size 59 [.int .u8 op,.int .i64 n,.string (bstr name),.slice ae es.length ce,.slice ab body.length cb,.slice al els.length cl]/\Below wr.heap.size wr W2:=⟨_,rfl,OwnV.new _ _ _,(yR _ _).alloc (zr _) _⟩;have hl1:=hlaw.len;have hl4:=hlaw.loc;obtain ⟨nx,hnx,hnx2⟩:=hlaw.names;have hl5:(tSs (l.take k) s).names.length<=s.names.length+szSs (l.take k):=by rw [hnx,yA];omega
   have hl2:=zlM hat;have hl3:=zqV l (k+1);have hs2:=hb2.size;have HE:=zh (zsm d Hih.out op n name es body els _ _ _ W2 t B vc1 vn1 (tSs (l.take k) s) (Hal.out _ (List.mem_of_getElem? hat)) (znr Hoks.out hat) (hE.low (hb2.mono (by omega))) (hLb.low (hb2.mono (by omega))) (hLl.low (hb2.mono (by omega))) (by omega) (HT.out.grown hb2) (by omega) (by omega) (by omega));have Htk:=zh (ztj hat s);rw [<- Htk.out] at HE;have HF2:=zh (HF.out.trans (TrF.of_below t vc1 vn1 hb2));have HW2:=zh hW2;obtain ⟨y0,y1,y2,y3,y4,y5⟩:=yc6 hX2;clear hX2 hb2 hW2 hlaw hl1 hl2 hl3 hl4 hl5 hnx hnx2 hat hE hLb hLl HT HF hBr z4;go_upto_region 4 with (fail)
   rw [<- HW2.out];go_wp2_with fail
   refine HE.out.mono ?_;rintro e3 w3 ⟨rfl,vc3,vn3,hT3,hF3⟩;have HT3:=zh hT3;have HF3:=zh (HF2.out.trans hF3);clear hT3 hF3 HE HF2;go_wp2_with fail
   go_roundw
   case rel=>exact ⟨k+1,vc3,vn3,by omega,by go_num,HT3,HF3⟩
   case measure=>simp [intOf];omega
  ·have hki:¬ (k:Int) < (l.length:Int):=by omega
   have hke:k=l.length:=by omega
   obtain ⟨nx,hnx,hnx2⟩:=hlaw.names;have hT2:TrC wr t B vc1 vn1 (tSs l s):=by have:=HT.out;rw [hke,List.take_length] at this;exact this
   rw [hke,List.take_length] at hnx;have hnl:s.names.length<=(tSs l s).names.length:=by rw [hnx,yA];omega
   obtain ⟨an1,capn1,hvn,hcn1,hcn2⟩:=Sl.form (Sl.of_own hT2.names);obtain ⟨m,hm⟩:∃ m,m=(tSs l s).names.length:=⟨_,rfl⟩;rw [<- hm] at hvn hnl hcn1;subst hvn;have HS:=zh (hT2.shrunk (n:=s.names.length) hm hnl);have z41:=hT2.blk.cell (i:=4) rfl;have zf:=hT2.blk.free;have hnli:(s.names.length:Int)<=(m:Int):=by omega
   have hcap0:(s.names.length:Int)<=(capn1:Int):=by omega
   have hcap3:s.names.length<=capn1:=by omega
   have hcap2:(capn1:Int)<=9223372036854775807:=by omega
   have Hm:=zh hm;clear HT hke hlaw hT2 hnx hnx2 hm hBr z4;go_wp2_with fail
   exact yE (results_none rfl _ _ _) rfl ⟨rfl,_,_,HS.out.1,HF.out.trans HS.out.2⟩
theorem zrP:zoC 0:=by
 intro l v w t B vc vn s hf hok hL hB h hn hc hlo
 obtain rfl:l=[]:=by
  cases l with
  | nil=>rfl
  | cons x r=>cases hf
 obtain ⟨a,cap,hv,-,-⟩:=hL.form;have hv2:v=.slice a 0 cap:=hv;subst hv2;obtain ⟨an,capn,rfl,hcn1,hcn2⟩:=Sl.form (Sl.of_own h.names);have z4:=h.blk.cell (i:=4) rfl;have zf:=h.blk.free;have hcap0:(s.names.length:Int)<=(capn:Int):=by omega
 have hcap2:(capn:Int)<=9223372036854775807:=by omega
 have HS:=zh (h.shrunk (n:=s.names.length) rfl (zr _));have Hr:Hid ((tSs [] s).back s.names.length=s.back s.names.length):=zh rfl;clear hf hok hL h hv;go_enter Try.func41,Try.ntmps41
 go_wp2_with fail
 obtain ⟨wq,hwq⟩:∃ wq:World,wq=w:=⟨_,rfl⟩;go_loopw [6,14,15,16,17,18,19,20,21] (fun _ t14 _ _ _ _ _ _ _ wr=>t14=.int .i64 0/\wr=w) (fun _ _ _ _ _ _ _ _ _ _=>0)
 case atStart=>exact ⟨by first | rfl | go_num,rfl⟩
 case round =>
  obtain ⟨rfl,rfl⟩:=hrel;go_wp2_with fail
  exact yE (results_none rfl _ _ _) rfl ⟨rfl,_,_,by rw [Hr.out];exact HS.out.1,HS.out.2⟩
theorem zsp:∀ d,zoC d:=by
 intro d
 induction d with
 | zero=>exact zrP
 | succ d ih=>exact zrO d ih
end Go.Proofs.Ytdeneckmoejcfaa

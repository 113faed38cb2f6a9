/- The program's translator: lazy, walked from a contract of expr. -/
import Derived.Test.YtdhikpkecmaplaaGreatDoorTransLMk
set_option linter.unusedSimpArgs false
set_option linter.unusedVariables false
set_option maxRecDepth 100000
set_option maxHeartbeats 2000000
namespace Go.Proofs.YtdhikpkecmaplaaGreatDoor
open Go.RowKit

def zoL (d : Nat) : Prop := ∀ (op n : Int) (name : List UInt8) (args : List Ex) (v : Value) (w : World) (t B : Nat) (vc vn : Value) (s : TS), zbd d (.mk op n name args) = true -> okE (.mk op n name args) -> EsL w B args v -> B <= w.heap.size -> TrC w t B vc vn s -> s.names.length <= 900000 -> s.code.length + 4 * szE (.mk op n name args) <= 900000 ->
  Calls Tryz.prog 144 #[.pointer (some ⟨t, 0, none⟩), .agg #[.int .u8 op, .int .i64 n, .string (bstr name), v]] w (TrP w t B vc vn (tE (.mk op n name args) s) (.tuple #[]))
theorem zqq (d:Nat) (ih:zoL d) (op n:Int) (name:List UInt8) (xa xb:Ex) (va:Value) (j u:Int) (w:World) (t B:Nat) (vc vn:Value) (s:TS) (hfa:zbd d xa=true) (hfb:zbd d xb=true) (hoa:okE xa) (hob:okE xb) (hL:EsL w B [xa,xb] va) (hB:B<=w.heap.size) (h:TrC w t B vc vn s) (hn:s.names.length<=900000) (hc:s.code.length+4 * (1+(szE xa+szE xb))<=900000) :
  Calls Tryz.prog 183 #[.pointer (some ⟨t,0,none⟩),.agg #[.int .u8 op,.int .i64 n,.string (bstr name),va],.int .u8 j,.int .i64 u] w (TrP w t B vc vn (zoJ (tE xa) (tE xb) j u s) (.tuple #[])):=by
 obtain ⟨a,cap,hv,hcc1,hcc2⟩:=hL.form;have hv2:va=.slice a 2 cap:=hv;subst hv2;clear hv;obtain ⟨W1,hW1,hX1,hb1⟩:∃ W1,W1=w.alloc (.cells #[.int .u8 op,.int .i64 n,.string (bstr name),.slice a 2 cap] 193)/\OwnV W1 w.heap.size 193 [.int .u8 op,.int .i64 n,.string (bstr name),.slice a 2 cap]/\Below w.heap.size w W1:=⟨_,rfl,OwnV.new _ _ _,(yR _ _).alloc (zr _) _⟩;have hs1:=hb1.size;have h1:=h.grown hb1;obtain ⟨b,off,op1,n1,name1,args1,aa,ac,rfl,hbB,hbw,hat,c0',c1',c2',c3',hLa⟩:=hL.at (k:=0) (by simp);obtain ⟨b',off',op2,n2,name2,args2,ab,ac2,he',hbB',hbw',hat',d0,d1,d2,d3,hLb⟩:=hL.at (k:=1) (by simp);cases he';rw [Nat.zero_mul,Nat.add_zero] at c0' c1' c2' c3';have c0:=Below.keep hb1 c0';have c1:=Below.keep hb1 c1';have c2:=Below.keep hb1 c2';have c3:=Below.keep hb1 c3';rw [Nat.one_mul] at d0 d1 d2 d3;have hxa:xa=.mk op1 n1 name1 args1:=by simpa using hat
 have hxb:xb=.mk op2 n2 name2 args2:=by simpa using hat'
 subst hxa hxb;have N1:=h.not (g:=w.heap.size) (zr _);have ea:=zom d _ s hfa;have eb:=zom d _ ((tE (.mk op1 n1 name1 args1) s).put j 0) hfb;have HA:=zh (ih op1 n1 name1 args1 _ W1 t B vc vn s hfa hoa (hLa.low (hb1.mono hB)) (by omega) h1 hn (by omega));have l1:=ea.len;have l1':=ea.le;have nm1:(tE (.mk op1 n1 name1 args1) s).names.length<=900000:=by rw [ea.names];exact hn
 have nm2:((tE (.mk op1 n1 name1 args1) s).put j 0).names.length<=900000:=nm1;have p1:((tE (.mk op1 n1 name1 args1) s).put j 0).code.length=(tE (.mk op1 n1 name1 args1) s).code.length+1:=by simp [TS.put_code]
 have l3:=eb.len;have l3':=eb.le;have nm3:(tE (.mk op2 n2 name2 args2) ((tE (.mk op1 n1 name1 args1) s).put j 0)).names.length<=900000:=by rw [eb.names];exact nm2
 have HFi:Hid (zoJ (tE (.mk op1 n1 name1 args1)) (tE (.mk op2 n2 name2 args2)) j u s=zoz (tE (.mk op1 n1 name1 args1) s) (tE (.mk op2 n2 name2 args2) ((tE (.mk op1 n1 name1 args1) s).put j 0)) u):=zh rfl;have HBc:Hid (∀ (W:World) (vc' vn':Value),Below B w W->B<=W.heap.size->TrC W t B vc' vn' ((tE (.mk op1 n1 name1 args1) s).put j 0)->Calls Tryz.prog 144 #[.pointer (some ⟨t,0,none⟩),.agg #[.int .u8 op2,.int .i64 n2,.string (bstr name2),.slice ab args2.length ac2]] W (TrP W t B vc' vn' (tE (.mk op2 n2 name2 args2) ((tE (.mk op1 n1 name1 args1) s).put j 0)) (.tuple #[]))):=zh (fun W vc' vn' hb hBW hT=>ih op2 n2 name2 args2 _ W t B vc' vn' _ hfb hob (hLb.low hb) hBW hT nm2 (by omega))
 generalize hq3:tE (.mk op2 n2 name2 args2) ((tE (.mk op1 n1 name1 args1) s).put j 0)=s3 at *
 generalize hq1:tE (.mk op1 n1 name1 args1) s=s1 at *
 generalize zoJ (tE (.mk op1 n1 name1 args1)) (tE (.mk op2 n2 name2 args2)) j u s=sf at *
 generalize szE (.mk op1 n1 name1 args1)=z1 at *
 generalize szE (.mk op2 n2 name2 args2)=z2 at *
 have x3:=hX1.cell (i:=3) rfl;have HX1:=zh (And.intro hX1 N1);have HD0:=zh d0;have HD1:=zh d1;have HD2:=zh d2;have HD3:=zh d3;have HF1:=zh (TrF.of_below t vc vn hb1);have HT1:=zh h1;have HT0:=zh h;have HW1:=zh hW1;clear hq1 hq3 ih hL hLa c0' c1' c2' c3' hLb hX1 h h1 hb1 hW1 N1 ea eb nm1 nm2 hat hat' hfa hfb hoa hob hbB' hbw hbw' d0 d1 d2 d3;go_enter Tryz.func183,Tryz.ntmps183
 go_upto_region 1 with (fail)
 rw [<- HW1.out];go_wp2_with fail
 refine HA.out.mono ?_;rintro e2 w2 ⟨rfl,vc2,vn2,hT2,hF2⟩;have HX2:=zh (hF2.own HX1.out.1 HX1.out.2);have HF2:=zh (HF1.out.trans hF2);have hs2:=hF2.size;have HL2:=zh (zoU j w2 t B vc2 vn2 s1 hT2 (by omega) (by omega));clear hT2 hF2 HA HX1 HF1 c0 c1 c2 c3;go_wp2_with fail
 refine HL2.out.mono ?_;rintro e3 w3 ⟨k1,k2,rfl,hk1,hk2,vc3,vn3,hT3,hF3,hn1,hn2⟩;have HX3:=zh (hF3.own HX2.out.1 HX2.out.2);have HF3:=zh (HF2.out.trans hF3);have HK3:=zh (And.intro (And.intro hk1 hn1) (And.intro hk2 hn2));have hs3:=hF3.size;have hB3:=HF3.out.below HT0.out hB;have c0:=(hB3.cell (p:=⟨b,off+4,none⟩) hbB).trans HD0.out;have c1:=(hB3.cell (p:=⟨b,off+4+1,none⟩) hbB).trans HD1.out;have c2:=(hB3.cell (p:=⟨b,off+4+2,none⟩) hbB).trans HD2.out;have c3:=(hB3.cell (p:=⟨b,off+4+3,none⟩) hbB).trans HD3.out;have x3:=HX3.out.1.cell (i:=3) rfl;have HB3:=zh (HBc.out w3 vc3 vn3 hB3 (by omega) hT3);clear hT3 hF3 hk1 hk2 hn1 hn2 HX2 HF2 HL2 HBc hB3;go_wp2_with fail
 refine HB3.out.mono ?_;rintro e4 w4 ⟨rfl,vc4,vn4,hT4,hF4⟩;have HK4:=zh (And.intro (hF4.own HK3.out.1.1 HK3.out.1.2) (hF4.own HK3.out.2.1 HK3.out.2.2));have HF4:=zh (HF3.out.trans hF4);have hs4:=hF4.size;have HP4:=zh (znS 10 0 w4 t B vc4 vn4 s3 hT4 (by omega) (by omega));clear hT4 hF4 HB3 HK3 HF3 HX3 c0 c1 c2 c3 x3;go_wp2_with fail
 refine HP4.out.mono ?_;rintro e5 w5 ⟨rfl,vc5,vn5,hT5,hF5⟩;have p4:(s3.put 10 0).code.length=s3.code.length+1:=by simp [TS.put_code]
 have HK5:=zh (And.intro (hF5.own HK4.out.1.1 HK4.out.1.2) (hF5.own HK4.out.2.1 HK4.out.2.2));have HF5:=zh (HF4.out.trans hF5);have hs5:=hF5.size;have HL5:=zh (zoU 11 w5 t B vc5 vn5 (s3.put 10 0) hT5 (by omega) (by omega));clear hT5 hF5 HP4 HK4 HF4;go_wp2_with fail
 refine HL5.out.mono ?_;rintro e6 w6 ⟨m1,m2,rfl,hm1,hm2,vc6,vn6,hT6,hF6,hq1,hq2⟩;have p5:((s3.put 10 0).put 11 0).code.length=s3.code.length+2:=by simp [TS.put_code]
 have HK6:=zh (And.intro (hF6.own HK5.out.1.1 HK5.out.1.2) (hF6.own HK5.out.2.1 HK5.out.2.2));have HM6:=zh (And.intro (And.intro hm1 hq1) (And.intro hm2 hq2));have HF6:=zh (HF5.out.trans hF6);have hs6:=hF6.size;have HL6:=zh (zoy k1 k2 s1.code.length w6 t B vc6 vn6 ((s3.put 10 0).put 11 0) hT6 (by omega) (by omega) HK6.out.1.1 HK6.out.2.1);clear hT6 hF6 HL5 HK5 HF5 hm1 hm2 hq1 hq2;go_wp2_with fail
 refine HL6.out.mono ?_;rintro e7 w7 ⟨rfl,vc7,vn7,hT7,hF7⟩;have p6:(((s3.put 10 0).put 11 0).patch s1.code.length).code.length=s3.code.length+2:=by show (setA _ _ _).length=_;rw [zoi,p5]
 have HM7:=zh (And.intro (hF7.own HM6.out.1.1 HM6.out.1.2) (hF7.own HM6.out.2.1 HM6.out.2.2));have HF7:=zh (HF6.out.trans hF7);have hs7:=hF7.size;have HP7:=zh (znS 1 u w7 t B vc7 vn7 _ hT7 (by omega) (by omega));clear hT7 hF7 HL6 HM6 HF6 HK6;go_wp2_with fail
 refine HP7.out.mono ?_;rintro e8 w8 ⟨rfl,vc8,vn8,hT8,hF8⟩;have p7:((((s3.put 10 0).put 11 0).patch s1.code.length).put 1 u).code.length=s3.code.length+3:=by rw [TS.put_code,yA,p6];rfl
 have HM8:=zh (And.intro (hF8.own HM7.out.1.1 HM7.out.1.2) (hF8.own HM7.out.2.1 HM7.out.2.2));have HF8:=zh (HF7.out.trans hF8);have HL8:=zh (zoy m1 m2 (s3.put 10 0).code.length w8 t B vc8 vn8 _ hT8 (by omega) (by omega) HM8.out.1.1 HM8.out.2.1);clear hT8 hF8 HP7 HM7 HF7;go_wp2_with fail
 refine HL8.out.mono ?_;rintro e9 w9 ⟨rfl,vc9,vn9,hT9,hF9⟩;have HT9:=zh hT9;have HF9:=zh (HF8.out.trans hF9);clear hT9 hF9 HL8 HM8 HF8;go_wp2_with fail
 exact yE (results_none rfl _ _ _) rfl ⟨rfl,_,_,by rw [HFi.out];exact HT9.out,HF9.out⟩

theorem ztN (xs ys:List Ex) (s:TS):tEs (xs++ys) s=tEs ys (tEs xs s):=by
 induction xs generalizing s with
 | nil=>rfl
 | cons x r ih=>rw [List.cons_append,tEs,tEs,ih]
theorem zoj {xs:List Ex} {k:Nat} {x:Ex} (h:xs[k]? = some x) (s:TS):tEs (xs.take (k+1)) s=tE x (tEs (xs.take k) s):=by
 obtain ⟨hlt,rfl⟩:=List.getElem?_eq_some_iff.1 h;rw [List.take_succ_eq_append_getElem hlt,ztN];rfl
theorem znP (xs:List Ex) (k:Nat):szEs (xs.take k)<=szEs xs:=by
 have:=ziA (xs.take k) (xs.drop k);rw [List.take_append_drop] at this;omega
theorem texpr_step (d:Nat) (ih:zoL d) (op:Int) (n:Int) (name:List UInt8) (args:List Ex) (v:Value) (w:World) (t B:Nat) (vc vn:Value) (s:TS) (hf:zbd (d+1) (.mk op n name args)=true) (hok:okE (.mk op n name args)) (hL:EsL w B args v) (hB:B<=w.heap.size) (h:TrC w t B vc vn s) (hn:s.names.length<=900000) (hc:s.code.length+4 * szE (.mk op n name args)<=900000) :
  Calls Tryz.prog 144 #[.pointer (some ⟨t,0,none⟩),.agg #[.int .u8 op,.int .i64 n,.string (bstr name),v]] w (TrP w t B vc vn (tE (.mk op n name args) s) (.tuple #[])):=by
 obtain ⟨a,cap,rfl,hcc1,hcc2⟩:=hL.form;obtain ⟨W1,hW1,hX1,hb1⟩:∃ W1,W1=w.alloc (.cells #[.int .u8 op,.int .i64 n,.string (bstr name),.slice a args.length cap] 193)/\OwnV W1 w.heap.size 193 [.int .u8 op,.int .i64 n,.string (bstr name),.slice a args.length cap]/\Below w.heap.size w W1:=⟨_,rfl,OwnV.new _ _ _,(yR _ _).alloc (zr _) _⟩;have hs1:=hb1.size;have h1:=h.grown hb1;have HW1:=zh hW1;have HF1:=zh (TrF.of_below t vc vn hb1);obtain ⟨x0,x1,x2,x3⟩:=yc4 hX1;rw [zbd,yC] at hf;obtain ⟨hh,hall⟩:=hf;have hsz:szE (.mk op n name args)=1+name.length / 30+szEs args:=rfl;have hma:=(zn2 hh).1;have hop:=(zn2 hh).2;obtain ⟨sf,HSf⟩:∃ sf,Hid (tE (.mk op n name args) s=sf):=⟨_,zh rfl⟩;rw [HSf.out];obtain ⟨-,-,-,hoks⟩:=hok;have hBB:B<=W1.heap.size:=by omega
 rcases (show op=1∨op=4∨op=5∨(op=21∨op=22)∨op=2∨(op=3∨op=6∨(7<=op/\op≠21/\op≠22)) by omega) with rfl | rfl | rfl | h0 | rfl | h0
 have Hr:Hid (sf=s.put 1 n):=zh (HSf.out.symm.trans rfl);have HP:=zh (znS 1 n W1 t B vc vn s h1 (by omega) (by omega));rotate_left
 have Hr:Hid (sf=s.put 6 0):=zh (HSf.out.symm.trans rfl);have HP:=zh (znS 6 0 W1 t B vc vn s h1 (by omega) (by omega));rotate_left
 have Hr:Hid (sf=s.put 7 0):=zh (HSf.out.symm.trans rfl);have HP:=zh (znS 7 0 W1 t B vc vn s h1 (by omega) (by omega));rotate_left
 obtain ⟨xa,xb,hab⟩:∃ xa xb,args=[xa,xb]:=by
  have hm:args.length=2:=by rcases h0 with rfl | rfl <;> exact hma
  match args,hm with
  | [xa,xb],_=>exact ⟨xa,xb,rfl⟩
 have hsz2:szEs args=szE xa+szE xb:=by rw [hab];simp [szEs]
 have hal:=List.all_eq_true.1 hall;have hoks2:okEs [xa,xb]:=by rw [<- hab];exact hoks
 have HZ:=fun (op:Int) j u=>zqq d ih op n name xa xb (.slice a args.length cap) j u W1 t B vc vn s (hal xa (by rw [hab];simp)) (hal xb (by rw [hab];simp)) hoks2.1 hoks2.2.1 (by rw [<- hab];exact hL.low (hb1.mono hB)) (by omega) h1 hn (by omega)
 have HA:=zh hab;clear hal hoks2 hab;rcases h0 with rfl | rfl
 have Hr:Hid (sf=zoJ (tE xa) (tE xb) 12 0 s):=zh (HSf.out.symm.trans (by rw [HA.out];rfl));have HP:=zh (HZ 21 12 0);clear HZ;rotate_left
 have Hr:Hid (sf=zoJ (tE xa) (tE xb) 13 1 s):=zh (HSf.out.symm.trans (by rw [HA.out];rfl));have HP:=zh (HZ 22 13 1);clear HZ;rotate_left
 ·have HS:=zh (zqS name W1 t B vc vn s h1 (by omega));have Hr:Hid (sf=(s.slot name).put 2 ((zai name s.names 0:Int) - 1)):=zh (HSf.out.symm.trans rfl);have hsc:(s.slot name).code.length=s.code.length:=by rw [TS.slot_code]
  generalize zai name s.names 0=p at *
  generalize s.slot name=s1 at *
  clear ih hL h h1 hb1 hX1 hW1 hall hh hoks hma HSf;go_enter Tryz.func144,Tryz.ntmps144
  go_upto_region 1 with (fail)
  rw [<- HW1.out];go_wp2_with fail
  refine HS.out.mono ?_;rintro e2 w2 ⟨rfl,vc2,vn2,hT2,hF2⟩;have HP:=zh (znS 2 ((p:Int) - 1) w2 t B vc2 vn2 s1 hT2 (yT hBB hF2.size) (by omega));have HF2:=zh (HF1.out.trans hF2);clear hT2 hF2;go_wp2_with fail
  refine HP.out.mono ?_;rintro e3 w3 ⟨rfl,vc3,vn3,hT3,hF3⟩;have HT3:=zh hT3;have HF3:=zh (HF2.out.trans hF3);clear hT3 hF3;go_wp2_with fail
  exact yE (results_none rfl _ _ _) rfl ⟨rfl,_,_,by rw [Hr.out];exact HT3.out,HF3.out⟩
 ·skip
  have e1:(op == 1)=false:=by rw [beq_eq_false_iff_ne];omega
  have e2:(op == 2)=false:=by rw [beq_eq_false_iff_ne];omega
  have e4:(op == 4)=false:=by rw [beq_eq_false_iff_ne];omega
  have e5:(op == 5)=false:=by rw [beq_eq_false_iff_ne];omega
  have e21:(op == 21)=false:=by rw [beq_eq_false_iff_ne];omega
  have e22:(op == 22)=false:=by rw [beq_eq_false_iff_ne];omega
  have H:=zh h0;clear h0;have Hoks:=zh hoks;have Hal:=zh (List.all_eq_true.1 hall);have Hih:=zh ih;have HL:=zh hL;have HT0:=zh h;have HT1:=zh h1;have HX1:=zh (And.intro hX1 (h.not (g:=w.heap.size) (zr _)));have Hlaw:Hid (∀ k,ExpsT s (tEs (args.take k) s) (szEs (args.take k)) (znG s.names (args.take k))):=zh (fun k=>zn6 _ s (fun x hx s=>zom d x s (List.all_eq_true.1 hall x (List.mem_of_mem_take hx))));have hle:=zoh args;clear ih hL h h1 hb1 hX1 hW1 hall hh hma hoks;go_enter Tryz.func144,Tryz.ntmps144
  go_upto_region 1 with (fail)
  rw [<- HW1.out];go_wp2_with fail
  go_loopw [5,11,12,13,14,15,16,17,18] (fun _ t11 _ _ _ _ _ _ _ wr=>∃ (k:Nat) (vc' vn':Value),k<=args.length/\t11=.int .i64 k/\Hid (TrC wr t B vc' vn' (tEs (args.take k) s))/\Hid (TrF t vc vn w vc' vn' wr)/\Hid (OwnV wr w.heap.size 193 [.int .u8 op,.int .i64 n,.string (bstr name),.slice a args.length cap]/\¬ TrS t vc' vn' w.heap.size)) (fun _ t11 _ _ _ _ _ _ _ _=>args.length - (intOf t11).toNat)
  case atStart=>exact ⟨0,vc,vn,by omega,by first | rfl | go_num,zh HT1.out,zh HF1.out,zh HX1.out⟩
  case round =>
   obtain ⟨k,vc1,vn1,hk,rfl,HT,HF,HX⟩:=hrel;have hBr:=HF.out.below HT0.out hB;have hsr:=HF.out.size;by_cases hkl:k < args.length
   ·have hki:(k:Int) < (args.length:Int):=by omega
    obtain ⟨b,off,op1,n1,name1,args1,aa,ac,rfl,hbB,hbw,hat,c0,c1,c2,c3,hLa⟩:=(HL.out.low hBr).at hkl;obtain ⟨W2,hW2,hX2,hb2⟩:∃ W2,W2=wr.alloc (.cells #[.int .u8 op1,.int .i64 n1,.string (bstr name1),.slice aa args1.length ac] 193)/\OwnV W2 wr.heap.size 193 [.int .u8 op1,.int .i64 n1,.string (bstr name1),.slice aa args1.length ac]/\Below wr.heap.size wr W2:=⟨_,rfl,OwnV.new _ _ _,(yR _ _).alloc (zr _) _⟩;have hlaw:=Hlaw.out k;have hl1:=hlaw.len;have hl2:=zhi hat;have hl3:=znP args (k+1);have hs2:=hb2.size;have HE:=zh (Hih.out op1 n1 name1 args1 _ W2 t B vc1 vn1 (tEs (args.take k) s) (Hal.out _ (List.mem_of_getElem? hat)) (zgR Hoks.out hat) (hLa.low (hb2.mono (by omega))) (by omega) (HT.out.grown hb2) (by rw [hlaw.names];exact hn) (by omega));have Htk:=zh (zoj hat s);rw [<- Htk.out] at HE;have HX2:=zh (And.intro (HX.out.1.below hb2 (zr _)) HX.out.2);have HF2:=zh (HF.out.trans (TrF.of_below t vc1 vn1 hb2));have HW2:=zh hW2;obtain ⟨y0,y1,y2,y3⟩:=yc4 hX2;clear hX2 hb2 hW2 hlaw hl1 hl2 hl3 hat hLa HT HF HX hBr;go_upto_region 5 with (fail)
    rw [<- HW2.out];go_wp2_with fail
    refine HE.out.mono ?_;rintro e3 w3 ⟨rfl,vc3,vn3,hT3,hF3⟩;have HT3:=zh hT3;have HX3:=zh (hF3.own HX2.out.1 HX2.out.2);have HF3:=zh (HF2.out.trans hF3);clear hT3 hF3 HE HX2 HF2;go_wp2_with fail
    go_roundw
    case rel=>exact ⟨k+1,vc3,vn3,by omega,by go_num,HT3,HF3,HX3⟩
    case measure=>simp [intOf];omega
   ·have hki:¬ (k:Int) < (args.length:Int):=by omega
    have hke:k=args.length:=by omega
    have HT2:Hid (TrC wr t B vc1 vn1 (tEs args s)):=zh (by have:=HT.out;rw [hke,List.take_length] at this;exact this);have hll:(tEs args s).code.length<=s.code.length+4 * szEs args:=by have:=(Hlaw.out args.length).len;rw [List.take_length] at this;exact this
    obtain ⟨x0,x1⟩:=yc2 HX.out.1;rcases H.out with rfl | rfl | h7
    have Hr:Hid (sf=(tEs args s).put 4 n):=zh (HSf.out.symm.trans rfl);have HP:=zh (znS 4 n wr t B vc1 vn1 (tEs args s) HT2.out (by omega) (by omega));rotate_left
    have Hr:Hid (sf=(tEs args s).put 8 0):=zh (HSf.out.symm.trans rfl);have HP:=zh (znS 8 0 wr t B vc1 vn1 (tEs args s) HT2.out (by omega) (by omega));rotate_left
    have Hr:Hid (sf=(tEs args s).put 9 op):=zh (HSf.out.symm.trans (by rw [tE,yN (by omega),yN (by omega),yN (by omega),yN (by omega),yN (by omega),yN (by omega),yN (by omega),yN (by omega)]));have HP:=zh (znS 9 op wr t B vc1 vn1 (tEs args s) HT2.out (by omega) (by omega));have e3:(op == 3)=false:=by rw [beq_eq_false_iff_ne];omega
    have e6:(op == 6)=false:=by rw [beq_eq_false_iff_ne];omega
    have hop0:0<=op:=by omega
    clear h7
    all_goals
     clear HT HT2 hBr hke;go_wp2_with fail
     refine HP.out.mono ?_;rintro e3 w3 ⟨rfl,vc3,vn3,hT3,hF3⟩;have HT3:=zh hT3;have HF3:=zh (HF.out.trans hF3);clear hT3 hF3;go_wp2_with fail
     exact yE (results_none rfl _ _ _) rfl ⟨rfl,_,_,by rw [Hr.out];exact HT3.out,HF3.out⟩
 all_goals
  clear ih hL h h1 hb1 hX1 hW1 hall hh hma hoks HSf;go_enter Tryz.func144,Tryz.ntmps144
  go_upto_region 1 with (fail)
  rw [<- HW1.out];go_wp2_with fail
  refine HP.out.mono ?_;rintro e2 w2 ⟨rfl,vc2,vn2,hT2,hF2⟩;have HT2:=zh hT2;have HF2:=zh (HF1.out.trans hF2);clear hT2 hF2;go_wp2_with fail
  exact yE (results_none rfl _ _ _) rfl ⟨rfl,_,_,by rw [Hr.out];exact HT2.out,HF2.out⟩
theorem zou:∀ d,zoL d:=by
 intro d
 induction d with
 | zero=>intro op n name args v w t B vc vn s h;cases h
 | succ d ih =>
  intro op n name args v w t B vc vn s hf hok hL hB h hn hc;exact texpr_step d ih op n name args v w t B vc vn s hf hok hL hB h hn hc
end Go.Proofs.YtdhikpkecmaplaaGreatDoor

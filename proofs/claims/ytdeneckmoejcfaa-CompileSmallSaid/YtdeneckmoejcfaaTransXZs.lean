/- The program's translator: lazy, walked from a contract of expr. -/
import Derived.Test.YtdeneckmoejcfaaRExprZs
import Derived.Test.YtdeneckmoejcfaaTransMZs
set_option linter.unusedSimpArgs false
set_option linter.unusedVariables false
set_option maxRecDepth 100000
set_option maxHeartbeats 2000000
namespace Go.Proofs.Ytdeneckmoejcfaa
open Go.RowKit

def zoL (d : Nat) : Prop := ∀ (op n : Int) (name : List UInt8) (args : List Ex) (v : Value) (w : World) (t B : Nat) (vc vn : Value) (s : TS), zbd d (.mk op n name args) = true -> okE (.mk op n name args) -> EsL w B args v -> B <= w.heap.size -> TrC w t B vc vn s -> s.names.length <= 900000 -> s.code.length + 4 * szE (.mk op n name args) <= 900000 ->
  Calls Try.prog 85 #[.pointer (some ⟨t, 0, none⟩), .agg #[.int .u8 op, .int .i64 n, .string (bstr name), v]] w (TrP w t B vc vn (tE (.mk op n name args) s) (.tuple #[]))
theorem zqq (d:Nat) (ih:zoL d) (op n:Int) (name:List UInt8) (xa xb:Ex) (va:Value) (j u:Int) (w:World) (t B:Nat) (vc vn:Value) (s:TS) (hfa:zbd d xa=true) (hfb:zbd d xb=true) (hoa:okE xa) (hob:okE xb) (hL:EsL w B [xa,xb] va) (hB:B<=w.heap.size) (h:TrC w t B vc vn s) (hn:s.names.length<=900000) (hc:s.code.length+4 * (1+(szE xa+szE xb))<=900000) :
  Calls Try.prog 103 #[.pointer (some ⟨t,0,none⟩),.agg #[.int .u8 op,.int .i64 n,.string (bstr name),va],.int .u8 j,.int .i64 u] w (TrP w t B vc vn (zoJ (tE xa) (tE xb) j u s) (.tuple #[])):=by
 obtain ⟨a,cap,hv,hcc1,hcc2⟩:=hL.form;have hv2:va=.slice a 2 cap:=hv;subst hv2;clear hv;obtain ⟨W1,hW1,hX1,hb1⟩:∃ W1,W1=w.alloc (.cells #[.int .u8 op,.int .i64 n,.string (bstr name),.slice a 2 cap] 65)/\OwnV W1 w.heap.size 65 [.int .u8 op,.int .i64 n,.string (bstr name),.slice a 2 cap]/\Below w.heap.size w W1:=⟨_,rfl,OwnV.new _ _ _,(yR _ _).alloc (zr _) _⟩;have hs1:=hb1.size;have h1:=h.grown hb1;obtain ⟨b,off,op1,n1,name1,args1,aa,ac,rfl,hbB,hbw,hat,c0',c1',c2',c3',hLa⟩:=hL.at (k:=0) (by simp);obtain ⟨b',off',op2,n2,name2,args2,ab,ac2,he',hbB',hbw',hat',d0,d1,d2,d3,hLb⟩:=hL.at (k:=1) (by simp);cases he';rw [Nat.zero_mul,Nat.add_zero] at c0' c1' c2' c3';have c0:=Below.keep hb1 c0';have c1:=Below.keep hb1 c1';have c2:=Below.keep hb1 c2';have c3:=Below.keep hb1 c3';rw [Nat.one_mul] at d0 d1 d2 d3;have hxa:xa=.mk op1 n1 name1 args1:=by simpa using hat
 have hxb:xb=.mk op2 n2 name2 args2:=by simpa using hat'
 subst hxa hxb;have N1:=h.not (g:=w.heap.size) (zr _);have ea:=zom d _ s hfa;have eb:=zom d _ ((tE (.mk op1 n1 name1 args1) s).put j 0) hfb;have HA:=zh (ih op1 n1 name1 args1 _ W1 t B vc vn s hfa hoa (hLa.low (hb1.mono hB)) (by omega) h1 hn (by omega));have l1:=ea.len;have l1':=ea.le;have nm1:(tE (.mk op1 n1 name1 args1) s).names.length<=900000:=by rw [ea.names];exact hn
 have nm2:((tE (.mk op1 n1 name1 args1) s).put j 0).names.length<=900000:=nm1;have p1:((tE (.mk op1 n1 name1 args1) s).put j 0).code.length=(tE (.mk op1 n1 name1 args1) s).code.length+1:=by simp [TS.put_code]
 have l3:=eb.len;have l3':=eb.le;have nm3:(tE (.mk op2 n2 name2 args2) ((tE (.mk op1 n1 name1 args1) s).put j 0)).names.length<=900000:=by rw [eb.names];exact nm2
 have HFi:Hid (zoJ (tE (.mk op1 n1 name1 args1)) (tE (.mk op2 n2 name2 args2)) j u s=zoz (tE (.mk op1 n1 name1 args1) s) (tE (.mk op2 n2 name2 args2) ((tE (.mk op1 n1 name1 args1) s).put j 0)) u):=zh rfl;have HBc:Hid (∀ (W:World) (vc' vn':Value),Below B w W->B<=W.heap.size->TrC W t B vc' vn' ((tE (.mk op1 n1 name1 args1) s).put j 0)->Calls Try.prog 85 #[.pointer (some ⟨t,0,none⟩),.agg #[.int .u8 op2,.int .i64 n2,.string (bstr name2),.slice ab args2.length ac2]] W (TrP W t B vc' vn' (tE (.mk op2 n2 name2 args2) ((tE (.mk op1 n1 name1 args1) s).put j 0)) (.tuple #[]))):=zh (fun W vc' vn' hb hBW hT=>ih op2 n2 name2 args2 _ W t B vc' vn' _ hfb hob (hLb.low hb) hBW hT nm2 (by omega))
 generalize hq3:tE (.mk op2 n2 name2 args2) ((tE (.mk op1 n1 name1 args1) s).put j 0)=s3 at *
 generalize hq1:tE (.mk op1 n1 name1 args1) s=s1 at *
 generalize zoJ (tE (.mk op1 n1 name1 args1)) (tE (.mk op2 n2 name2 args2)) j u s=sf at *
 generalize szE (.mk op1 n1 name1 args1)=z1 at *
 generalize szE (.mk op2 n2 name2 args2)=z2 at *
 have x3:=hX1.cell (i:=3) rfl;have HX1:=zh (And.intro hX1 N1);have HD0:=zh d0;have HD1:=zh d1;have HD2:=zh d2;have HD3:=zh d3;have HF1:=zh (TrF.of_below t vc vn hb1);have HT1:=zh h1;have HT0:=zh h;have HW1:=zh hW1;clear hq1 hq3 ih hL hLa c0' c1' c2' c3' hLb hX1 h h1 hb1 hW1 N1 ea eb nm1 nm2 hat hat' hfa hfb hoa hob hbB' hbw hbw' d0 d1 d2 d3;go_enter Try.func103,Try.ntmps103
 go_upto_region 1 with (fail)
 rw [<- HW1.out];go_wp2_with fail
 refine HA.out.mono ?_;rintro e2 w2 ⟨rfl,vc2,vn2,hT2,hF2⟩;have HX2:=zh (hF2.own HX1.out.1 HX1.out.2);have HF2:=zh (HF1.out.trans hF2);have hs2:=hF2.size;have HL2:=zh (zoU j w2 t B vc2 vn2 s1 hT2 (by omega) (by omega));clear hT2 hF2 HA HX1 HF1 c0 c1 c2 c3;go_wp2_with fail
 refine HL2.out.mono ?_;rintro e3 w3 ⟨k1,k2,rfl,hk1,hk2,vc3,vn3,hT3,hF3,hn1,hn2⟩;have HX3:=zh (hF3.own HX2.out.1 HX2.out.2);have HF3:=zh (HF2.out.trans hF3);have HK3:=zh (And.intro (And.intro hk1 hn1) (And.intro hk2 hn2));have hs3:=hF3.size;have hB3:=HF3.out.below HT0.out hB;have c0:=(hB3.cell (p:=⟨b,off+4,none⟩) hbB).trans HD0.out;have c1:=(hB3.cell (p:=⟨b,off+4+1,none⟩) hbB).trans HD1.out;have c2:=(hB3.cell (p:=⟨b,off+4+2,none⟩) hbB).trans HD2.out;have c3:=(hB3.cell (p:=⟨b,off+4+3,none⟩) hbB).trans HD3.out;have x3:=HX3.out.1.cell (i:=3) rfl;have HB3:=zh (HBc.out w3 vc3 vn3 hB3 (by omega) hT3);clear hT3 hF3 hk1 hk2 hn1 hn2 HX2 HF2 HL2 HBc hB3;go_wp2_with fail
 refine HB3.out.mono ?_;rintro e4 w4 ⟨rfl,vc4,vn4,hT4,hF4⟩;have HK4:=zh (And.intro (hF4.own HK3.out.1.1 HK3.out.1.2) (hF4.own HK3.out.2.1 HK3.out.2.2));have HF4:=zh (HF3.out.trans hF4);have hs4:=hF4.size;have HP4:=zh (znS 10 0 w4 t B vc4 vn4 s3 hT4 (by omega) (by omega));clear hT4 hF4 HB3 HK3 HF3 HX3 c0 c1 c2 c3 x3;go_wp2_with fail
 refine HP4.out.mono ?_;rintro e5 w5 ⟨rfl,vc5,vn5,hT5,hF5⟩;have p4:(s3.put 10 0).code.length=s3.code.length+1:=by simp [TS.put_code]
 have HK5:=zh (And.intro (hF5.own HK4.out.1.1 HK4.out.1.2) (hF5.own HK4.out.2.1 HK4.out.2.2));have HF5:=zh (HF4.out.trans hF5);have hs5:=hF5.size;have HL5:=zh (zoU 11 w5 t B vc5 vn5 (s3.put 10 0) hT5 (by omega) (by omega));clear hT5 hF5 HP4 HK4 HF4;go_wp2_with fail
 refine HL5.out.mono ?_;rintro e6 w6 ⟨m1,m2,rfl,hm1,hm2,vc6,vn6,hT6,hF6,hq1,hq2⟩;have p5:((s3.put 10 0).put 11 0).code.length=s3.code.length+2:=by simp [TS.put_code]
 have HK6:=zh (And.intro (hF6.own HK5.out.1.1 HK5.out.1.2) (hF6.own HK5.out.2.1 HK5.out.2.2));have HM6:=zh (And.intro (And.intro hm1 hq1) (And.intro hm2 hq2));have HF6:=zh (HF5.out.trans hF6);have hs6:=hF6.size;have HL6:=zh (zoy k1 k2 s1.code.length w6 t B vc6 vn6 ((s3.put 10 0).put 11 0) hT6 (by omega) (by omega) HK6.out.1.1 HK6.out.2.1);clear hT6 hF6 HL5 HK5 HF5 hm1 hm2 hq1 hq2;go_wp2_with fail
 refine HL6.out.mono ?_;rintro e7 w7 ⟨rfl,vc7,vn7,hT7,hF7⟩;have p6:(((s3.put 10 0).put 11 0).patch s1.code.length).code.length=s3.code.length+2:=by show (setA _ _ _).length=_;rw [zoi,p5]
 have HM7:=zh (And.intro (hF7.own HM6.out.1.1 HM6.out.1.2) (hF7.own HM6.out.2.1 HM6.out.2.2));have HF7:=zh (HF6.out.trans hF7);have hs7:=hF7.size;have HP7:=zh (znS 1 u w7 t B vc7 vn7 _ hT7 (by omega) (by omega));clear hT7 hF7 HL6 HM6 HF6 HK6;go_wp2_with fail
 refine HP7.out.mono ?_;rintro e8 w8 ⟨rfl,vc8,vn8,hT8,hF8⟩;have p7:((((s3.put 10 0).put 11 0).patch s1.code.length).put 1 u).code.length=s3.code.length+3:=by rw [TS.put_code,yA,p6];rfl
 have HM8:=zh (And.intro (hF8.own HM7.out.1.1 HM7.out.1.2) (hF8.own HM7.out.2.1 HM7.out.2.2));have HF8:=zh (HF7.out.trans hF8);have HL8:=zh (zoy m1 m2 (s3.put 10 0).code.length w8 t B vc8 vn8 _ hT8 (by omega) (by omega) HM8.out.1.1 HM8.out.2.1);clear hT8 hF8 HP7 HM7 HF7;go_wp2_with fail
 refine HL8.out.mono ?_;rintro e9 w9 ⟨rfl,vc9,vn9,hT9,hF9⟩;have HT9:=zh hT9;have HF9:=zh (HF8.out.trans hF9);clear hT9 hF9 HL8 HM8 HF8;go_wp2_with fail
 exact yE (results_none rfl _ _ _) rfl ⟨rfl,_,_,by rw [HFi.out];exact HT9.out,HF9.out⟩
end Go.Proofs.Ytdeneckmoejcfaa

/- What comes in, opened: a list of statements. -/
import Derived.Test.YtoaojdobjinhfaaGreatDoorRWrDS
import Derived.Test.YtoaojdobjinhfaaGreatDoorRightRP
set_option linter.unusedSimpArgs false
set_option linter.unusedVariables false
set_option maxRecDepth 100000
set_option maxHeartbeats 2000000
namespace Go.Proofs.YtoaojdobjinhfaaGreatDoor
open Go.ChangeShapes Go.WideShapes Go.RowKit
set_option maxRecDepth 100000

theorem okSs_app {xs ys:List St} (h:okSs xs) (g:okSs ys):okSs (xs++ys):=by
 induction xs with
 | nil=>exact g
 | cons x r ih=>exact ⟨h.1,ih h.2⟩
variable {H : Type} {enc : TypeId × Value → H} {w : World} {base : Nat} {spare : Nat → Bool} {held : Bool}
theorem open_sts:∀ (fuel:Nat) (cs:List Value) (x:DataW H × List MemPlace),DataW.trod enc Tryz.prog w base spare held fuel 24 cs=some x →
  ∃ v l,cs=[v]∧okSs l∧SsL w w.heap.size l v:=by
 intro fuel
 induction fuel using Nat.strongRecOn with
 | _ fuel ih =>
  intro cs x h
  obtain ⟨v,l,ds,rfl,h1,h2,h3⟩:=zlZ 6 (by omega) Tryz.underlying24 (by kernel_rfl) (fun (l:List St) ds=>okSs l∧StsC w (fun g=>g < w.heap.size) l ds) ⟨trivial,.nil⟩ (fun a b c d g1 g2=>⟨okSs_app g1.1 g2.1,g1.2.join g2.2⟩) (fun n cs y hn hy=>by
   obtain ⟨xs,m,rfl,-,hl,hlen,hf⟩:=DataW.trod_struct Tryz.underlying56 hy;have hl4:cs.length=6:=hl.trans (by kernel_rfl)
   match xs,hlen with
   | [y0,y1,y2,y3,y4,y5],_ =>
   match cs,hl4 with
   | [c0,c1,c2,c3,c4,c5],_ =>
   have g0:=hf 0 _ rfl;have g1:=hf 1 _ rfl;have g2:=hf 2 _ rfl;have g3:=hf 3 _ rfl;have g4:=hf 4 _ rfl;have g5:=hf 5 _ rfl;have k1:Tryz.prog.cellsOf 5 = 1:=by kernel_rfl
   have k2:Tryz.prog.cellsOf 3 = 1:=by kernel_rfl
   have k3:Tryz.prog.cellsOf 9 = 1:=by kernel_rfl
   have k4:Tryz.prog.cellsOf 27 = 1:=by kernel_rfl
   have k5:Tryz.prog.cellsOf 24 = 1:=by kernel_rfl
   simp [k1,k2,k3,k4,k5] at g0 g1 g2 g3 g4 g5;obtain ⟨op,e0,-,w0⟩:=DataW.trod_int Tryz.underlying5 g0;obtain ⟨a,e1,-,w1⟩:=DataW.trod_int Tryz.underlying3 g1;obtain ⟨s,e2,-,w2⟩:=DataW.trod_string Tryz.underlying9 g2;obtain ⟨va,es,e3,o3,ds3,q1,q2,q3⟩:=zmT _ _ _ g3;obtain ⟨vb,body,e4,o4,ds4,p1,p2,p3⟩:=ih m (by omega) _ _ g4;obtain ⟨vl,els,e5,o5,ds5,r1,r2,r3⟩:=ih m (by omega) _ _ g5;cases e0;cases e1;cases e2;cases e3;cases e4;cases e5;refine ⟨.mk op a s.data.toList es body els,⟨⟨zjM w0,ziQ w1,by rw [ziR];exact w2,o3,o4,o5⟩,trivial⟩,?_⟩;have:=StsC.cons (w:=w) (P:=fun g=>g < w.heap.size) (op:=op) (n:=a) (name:=s.data.toList) q1 q2 q3 p1 p2 p3 r1 r2 r3 .nil
   rwa [zhm] at this) h
  exact ⟨v,l,rfl,h3.1,ds,h1,h2,h3.2⟩
theorem open_stmts {r:Reach} {b0:Nat} {v:Value} {d:DataW H} {p:List MemPlace}
  (hv:Value.okWide Tryz.prog w r b0 24 v) (h:DataW.Trod enc Tryz.prog w base spare held 24 v d p):∃ l,okSs l∧SsL w w.heap.size l v:=by
 obtain ⟨a,len,cap,rfl⟩:=okWide_slice Tryz.underlying24 hv;obtain ⟨fuel,hf⟩:=h;obtain ⟨v',l,e,ho,hs⟩:=open_sts fuel _ _ hf;simp [Value.cells] at e;subst e;exact ⟨l,ho,hs⟩
open Go.RowKit

theorem size_any:∀ (m:Nat) (xs:List St) (v:Value) (w:World) (B:Nat) (left:Int),szSs xs < m→okSs xs→SsL w B xs v→B≤w.heap.size→-600000000000000000≤left→left≤1000 →
  Calls Tryz.prog 17 #[v,.int .i64 left] w fun e w'=>(∃ r:Nat,e=.returned (.int .i64 r)∧(r:Int)≤max left 0+576460752303423488∧((r:Int)≤left→r=szSs xs)∧(left < 0→r=0))∧Below w.heap.size w w':=by
 intro m
 induction m with
 | zero=>intro xs v w B left h;omega
 | succ m ih =>
  intro xs v w B left hm hok hL hB hl0 hl;obtain ⟨a,cap,rfl,hc1,hc2⟩:=hL.form;have Hoks:=zh hok;have HL:=zh hL;have Hm:=zh hm;have Hih:=zh ih;clear hm hok hL ih;go_enter Tryz.func17,Tryz.ntmps17
  go_wp2_with fail
  go_loopw [5,6,7,8,9,10,11,12,13,14,15,16,17,18,19,20,21,22,23,24,25,26,27,28,29,30,31,32,33,34,35,36,37,38,39,40,41,42,43,44,45,46,47,48,49,50,51,52,53,54,55,56,57,58,59,60,61,62,63,64,65,66,67,68,69,70,71,72,73,74,75,76,77,78,79] (fun t5 t6 _ _ _ _ _ _ _ _ _ _ _ _ _ _ _ _ _ _ _ _ _ _ _ _ _ _ _ _ _ _ _ _ _ _ _ _ _ _ _ _ _ _ _ _ _ _ _ _ _ _ _ _ _ _ _ _ _ _ _ _ _ _ _ _ _ _ _ _ _ _ _ _ _ wr=>∃ (k r:Nat),k≤xs.length∧t6=.int .i64 k∧t5=.int .i64 r∧(r:Int)≤max left 0+576460752303423488∧Hid ((r:Int)≤left→r=szSs (xs.take k))∧(left < 0→r=0)∧Hid (Below w.heap.size w wr)) (fun _ t6 _ _ _ _ _ _ _ _ _ _ _ _ _ _ _ _ _ _ _ _ _ _ _ _ _ _ _ _ _ _ _ _ _ _ _ _ _ _ _ _ _ _ _ _ _ _ _ _ _ _ _ _ _ _ _ _ _ _ _ _ _ _ _ _ _ _ _ _ _ _ _ _ _ _=>xs.length - (intOf t6).toNat)
  case atStart=>exact ⟨0,0,by omega,by first | rfl | go_num,by first | rfl | go_num,by omega,zh (fun _=>by simp [szSs]),fun _=>rfl,zh (Below.refl _ _)⟩
  case round =>
   obtain ⟨wo,rfl⟩:∃ wo:World,wo=wr:=⟨_,rfl⟩;obtain ⟨k,r,hk,rfl,rfl,hr2,HR,hneg,HB⟩:=hrel;by_cases hkl:k < xs.length
   ·have hki:(k:Int) < (xs.length:Int):=by omega
    have hcl:(xs.length:Int)≤9223372036854775807:=by omega
    by_cases hrl:(r:Int)≤left
    ·have hLr:SsL wo B xs (.slice a xs.length cap):=HL.out.low (HB.out.mono hB);obtain ⟨b,off,op2,n2,name2,es,body,els,ae,ce,ab,cb,al,cl,rfl,hbB,hbw,hat,c0,c1,c2,c3,c4,c5,hE,hBd,hEl⟩:=hLr.at hkl;obtain ⟨hz1,hz2,hz3⟩:=szS_mk hat;obtain ⟨-,-,hnm,hok1,hok2,hok3⟩:=znr Hoks.out hat;have hszr:=HB.out.size;obtain ⟨N,hN⟩:∃ N,(bstr name2).size=N:=⟨_,rfl⟩;have hN2:N=name2.length:=by rw [← hN,zkW]
     obtain ⟨M,hM⟩:∃ M:Nat,M=N / 30:=⟨_,rfl⟩;have hq:((N:Int).tdiv 30)=M:=by rw [hM,Int.tdiv_eq_ediv_of_nonneg (by omega)];omega
     have hMb:M≤307445734561825861:=by omega
     have Hst:Hid (szSs (xs.take (k+1))=szSs (xs.take k)+(1+M+szEs es+szSs body+szSs els)):=zh (by rw [zlM hat,szS,hM,hN2]);have hle:(es.length:Int)≤9223372036854775807:=by obtain ⟨_,_,h,h1,h2⟩:=hE.form;omega
     have Hok1:=zh hok1;have HE:=zh hE;have HBd:Hid (∀ (w':World) (l':Int),Below wo.heap.size wo w'→-600000000000000000≤l'→l'≤1000→Calls Tryz.prog 17 #[.slice ab body.length cb,.int .i64 l'] w' _):=zh (fun w' l' hb h1 h2=>Hih.out body _ w' B l' (by have:=Hm.out;omega) hok2 (hBd.low (hb.mono (Nat.le_trans hB hszr))) (Nat.le_trans hB (Nat.le_trans hszr hb.size)) h1 h2);have HEl:Hid (∀ (w':World) (l':Int),Below wo.heap.size wo w'→-600000000000000000≤l'→l'≤1000→Calls Tryz.prog 17 #[.slice al els.length cl,.int .i64 l'] w' _):=zh (fun w' l' hb h1 h2=>Hih.out els _ w' B l' (by have:=Hm.out;omega) hok3 (hEl.low (hb.mono (Nat.le_trans hB hszr))) (Nat.le_trans hB (Nat.le_trans hszr hb.size)) h1 h2);have C3:=zh c3;have C4:=zh c4;have C5:=zh c5;clear hLr hat hz1 hz2 hz3 hnm hok1 hok2 hok3 hE hBd hEl hN2 hM;go_wp2_with fail
     go_loopw [5,7,29,30,31,32,33,34,35,36,37,38,39,40,41,42,43,44,45,46,47,48,49,50,51,52,53,54,55,56,57] (fun t5 t7 _ _ _ _ _ _ _ _ _ _ _ _ _ _ _ _ _ _ _ _ _ _ _ _ _ _ _ _ _ wr=>∃ (j s:Nat),j≤es.length∧t7=.int .i64 j∧t5=.int .i64 s∧(s:Int)≤left+576460752303423488∧Hid ((s:Int)≤left→s=r+(1+M+szEs (es.take j)))∧Hid (Below wo.heap.size wo wr)) (fun _ t7 _ _ _ _ _ _ _ _ _ _ _ _ _ _ _ _ _ _ _ _ _ _ _ _ _ _ _ _ _ _=>es.length - (intOf t7).toNat)
     case atStart=>exact ⟨0,r+(1+M),by omega,by first | rfl | go_num,by first | rfl | go_num,by omega,zh (fun _=>by simp [szEs]),zh (Below.refl _ _)⟩
     case round =>
      obtain ⟨j,s,hj,rfl,rfl,hs2,HS,HB2⟩:=hrel;have c3:=Below.keep HB2.out C3.out;by_cases hjl:j < es.length
      ·have hji:(j:Int) < (es.length:Int):=by omega
       by_cases hsl:(s:Int)≤left
       ·have hLe:EsL wr B es (.slice ae es.length ce):=HE.out.low (HB2.out.mono (Nat.le_trans hB hszr));obtain ⟨be,oe,op3,n3,name3,args,aa,ac,rfl,hbB3,hbw3,hat3,d0,d1,d2,d3,hL3⟩:=hLe.at hjl;obtain ⟨sub,hsub⟩:∃ sub:Nat,left - s=(sub:Int):=⟨(left - s).toNat,by omega⟩;have HI:=zh (zl0 _ op3 n3 name3 args _ wr B sub (Nat.lt_succ_self _) (zgR Hok1.out hat3) hL3 (Nat.le_trans hB (Nat.le_trans hszr HB2.out.size)) (by omega));have Hst3:Hid (szEs (es.take (j+1))=szEs (es.take j)+szE (.mk op3 n3 name3 args)):=zh (zhi hat3)
        generalize szE (.mk op3 n3 name3 args)=Z at *
        clear hLe hat3 hL3;go_wp2_with fail
        refine HI.out.mono ?_;rintro e2 w2 ⟨⟨r2,rfl,h1,h2,h3⟩,hb2⟩;have H3:=zh h3;have HB3:=zh (HB2.out.trans (hb2.mono HB2.out.size));clear h3 hb2;go_wp2_with fail
        go_roundw
        case rel=>exact ⟨j+1,s+r2,by omega,by go_num,by go_num,by omega,zh (fun h=>by have:=HS.out (by omega);have:=H3.out (by omega);have:=Hst3.out;omega),HB3⟩
        case measure=>simp [intOf];omega
       ·have hsi:¬ (s:Int)≤left:=by omega
        have HS2:Hid ((s:Int)≤left→s=r+(1+M+szEs es)):=zh (fun h=>by omega);have c4:=Below.keep HB2.out C4.out;go_wp2_with fail
        refine (HBd.out _ _ HB2.out (by omega) (by omega)).mono ?_;rintro e4 w4 ⟨⟨r4,rfl,h41,h42,h43⟩,hb4⟩;have H42:=zh h42;have HB4:=zh (HB2.out.trans (hb4.mono HB2.out.size));have c5:=Below.keep HB4.out C5.out;clear h42 hb4 c4;go_wp2_with fail
        refine (HEl.out _ _ HB4.out (by omega) (by omega)).mono ?_;rintro e5 w5 ⟨⟨r5,rfl,h51,h52,h53⟩,hb5⟩;have H52:=zh h52;have HB5:=zh (HB.out.trans ((HB4.out.trans (hb5.mono HB4.out.size)).mono hszr));clear h52 hb5 c5;go_wp2_with fail
        go_roundw
        case rel=>exact ⟨k+1,s+r4+r5,by omega,by go_num,by go_num,by omega,zh (fun h=>by have:=HR.out hrl;have:=HS2.out (by omega);have:=H42.out (by omega);have:=H52.out (by omega);have:=Hst.out;omega),fun h=>by omega,HB5⟩
        case measure=>simp [intOf];omega
      ·have hji:¬ (j:Int) < (es.length:Int):=by omega
       have hje:j=es.length:=by omega
       have HS2:Hid ((s:Int)≤left→s=r+(1+M+szEs es)):=zh (fun h=>by have h2:=HS.out h;rw [hje,List.take_length] at h2;exact h2);have c4:=Below.keep HB2.out C4.out;go_wp2_with fail
       refine (HBd.out _ _ HB2.out (by omega) (by omega)).mono ?_;rintro e4 w4 ⟨⟨r4,rfl,h41,h42,h43⟩,hb4⟩;have H42:=zh h42;have HB4:=zh (HB2.out.trans (hb4.mono HB2.out.size));have c5:=Below.keep HB4.out C5.out;clear h42 hb4 c4;go_wp2_with fail
       refine (HEl.out _ _ HB4.out (by omega) (by omega)).mono ?_;rintro e5 w5 ⟨⟨r5,rfl,h51,h52,h53⟩,hb5⟩;have H52:=zh h52;have HB5:=zh (HB.out.trans ((HB4.out.trans (hb5.mono HB4.out.size)).mono hszr));clear h52 hb5 c5;go_wp2_with fail
       go_roundw
       case rel=>exact ⟨k+1,s+r4+r5,by omega,by go_num,by go_num,by omega,zh (fun h=>by have:=HR.out hrl;have:=HS2.out (by omega);have:=H42.out (by omega);have:=H52.out (by omega);have:=Hst.out;omega),fun h=>by omega,HB5⟩
       case measure=>simp [intOf];omega
    ·have hli:¬ (r:Int)≤left:=by omega
     go_wp2_with fail
     go_ret;exact ⟨⟨r,rfl,hr2,fun h=>by omega,hneg⟩,HB.out⟩
   ·have hki:¬ (k:Int) < (xs.length:Int):=by omega
    have hke:k=xs.length:=by omega
    go_wp2_with fail
    go_ret;exact ⟨⟨r,rfl,hr2,fun h=>by have h2:=HR.out h;rw [hke,List.take_length] at h2;exact h2,hneg⟩,HB.out⟩

def OnR (B d : Nat) (s : St) : Prop := ∀ (op n : Int) (name : List UInt8) (es : List Ex) (body els : List St) (ve vb vl : Value) (tabs : List UInt8) (w : World), s = .mk op n name es body els → B ≤ w.heap.size → EsL w B es ve → SsL w B body vb → SsL w B els vl → tabs.length + d ≤ 100 → (oneW tabs s).length ≤ 1000000000000000 → Calls Tryz.prog 119 #[.agg #[.int .u8 op, .int .i64 n, .string (bstr name), ve, vb, vl], .string (bstr tabs)] w (TxtE (oneW tabs s) w)
def LnR (B d : Nat) (l : List St) : Prop := ∀ (v : Value) (tabs : List UInt8) (w : World), B ≤ w.heap.size → SsL w B l v → tabs.length + d ≤ 100 → (zaM tabs l).length ≤ 1000000000000000 → Calls Tryz.prog 74 #[v, .string (bstr tabs)] w (TxtE (zaM tabs l) w)
theorem ro_stop {w:World} {B d:Nat} {tabs:List UInt8}  {ve vb vl:Value} (hE:EsL w B [] ve) (hBo:SsL w B [] vb) (hEl:SsL w B [] vl) (hB:B≤w.heap.size) (ht:tabs.length+(d+1)≤100) :
  Calls Tryz.prog 119 #[.agg #[.int .u8 6,.int .i64 0,.string (bstr []),ve,vb,vl],.string (bstr tabs)] w (TxtE ([115,116,111,112,59]) w):=by
 obtain ⟨ea,ec,rfl,-,-⟩:=hE.form;obtain ⟨ba,bc,rfl,-,-⟩:=hBo.form;obtain ⟨la,lc,rfl,-,-⟩:=hEl.form;obtain ⟨W0,hW0,hb0,hO0⟩:∃ W0,W0=w.alloc (.cells #[.int .u8 6,.int .i64 0,.string (bstr []),.slice ea 0 ec,.slice ba 0 bc,.slice la 0 lc] 56)∧Below w.heap.size w W0∧OwnV W0 w.heap.size 56 [.int .u8 6,.int .i64 0,.string (bstr []),.slice ea 0 ec,.slice ba 0 bc,.slice la 0 lc]:=⟨_,rfl,(Below.refl _ _).alloc (zr _) _,OwnV.new _ _ _⟩;obtain ⟨TX,hTX⟩:∃ X:List UInt8,[115,116,111,112,59]=X:=⟨_,rfl⟩;rw [hTX];have HTX:=zh hTX;clear hTX;have hsz:B≤W0.heap.size:=Nat.le_trans hB hb0.size;have hE0:=hE.low (hb0.mono hB);have hBo0:=hBo.low (hb0.mono hB);have hEl0:=hEl.low (hb0.mono hB);obtain ⟨TB,hTB⟩:∃ S,bstr tabs=S:=⟨_,rfl⟩;have htl:TB.size≤100:=by rw [← hTB,zaC];omega
 have HT:Hid (bstr TX={ data:=#[115,116,111,112,59] }):=zh (by rw [← HTX.out];rfl);have HW0:=zh hW0;have Hb0:=zh hb0;have x0:=hO0.cell (i:=0) rfl;clear hW0 hO0 hb0 hE hBo hEl hE0 hBo0 hEl0 ht ;go_enter Tryz.func119,Tryz.ntmps119
 go_upto_region 1 with (fail)
 rw [← HW0.out];go_wp2_with fail
 exact bodyPost_ret (v:=.string ({ data:=#[115,116,111,112,59] })) (by simp [results,Tryz.results119,go_sem]) rfl ⟨by rw [HT.out],Hb0.out⟩
theorem ro_fail {w:World} {B d:Nat} {tabs:List UInt8}  {ve vb vl:Value} (hE:EsL w B [] ve) (hBo:SsL w B [] vb) (hEl:SsL w B [] vl) (hB:B≤w.heap.size) (ht:tabs.length+(d+1)≤100) :
  Calls Tryz.prog 119 #[.agg #[.int .u8 7,.int .i64 0,.string (bstr []),ve,vb,vl],.string (bstr tabs)] w (TxtE ([102,97,105,108,59]) w):=by
 obtain ⟨ea,ec,rfl,-,-⟩:=hE.form;obtain ⟨ba,bc,rfl,-,-⟩:=hBo.form;obtain ⟨la,lc,rfl,-,-⟩:=hEl.form;obtain ⟨W0,hW0,hb0,hO0⟩:∃ W0,W0=w.alloc (.cells #[.int .u8 7,.int .i64 0,.string (bstr []),.slice ea 0 ec,.slice ba 0 bc,.slice la 0 lc] 56)∧Below w.heap.size w W0∧OwnV W0 w.heap.size 56 [.int .u8 7,.int .i64 0,.string (bstr []),.slice ea 0 ec,.slice ba 0 bc,.slice la 0 lc]:=⟨_,rfl,(Below.refl _ _).alloc (zr _) _,OwnV.new _ _ _⟩;obtain ⟨TX,hTX⟩:∃ X:List UInt8,[102,97,105,108,59]=X:=⟨_,rfl⟩;rw [hTX];have HTX:=zh hTX;clear hTX;have hsz:B≤W0.heap.size:=Nat.le_trans hB hb0.size;have hE0:=hE.low (hb0.mono hB);have hBo0:=hBo.low (hb0.mono hB);have hEl0:=hEl.low (hb0.mono hB);obtain ⟨TB,hTB⟩:∃ S,bstr tabs=S:=⟨_,rfl⟩;have htl:TB.size≤100:=by rw [← hTB,zaC];omega
 have HT:Hid (bstr TX={ data:=#[102,97,105,108,59] }):=zh (by rw [← HTX.out];rfl);have HW0:=zh hW0;have Hb0:=zh hb0;have x0:=hO0.cell (i:=0) rfl;clear hW0 hO0 hb0 hE hBo hEl hE0 hBo0 hEl0 ht ;go_enter Tryz.func119,Tryz.ntmps119
 go_upto_region 1 with (fail)
 rw [← HW0.out];go_wp2_with fail
 exact bodyPost_ret (v:=.string ({ data:=#[102,97,105,108,59] })) (by simp [results,Tryz.results119,go_sem]) rfl ⟨by rw [HT.out],Hb0.out⟩
theorem ro_let {w:World} {B d:Nat} {tabs:List UInt8} {name:List UInt8} {y:Ex} (hn:name.length≤24) (h0:Shp 40 y) {ve vb vl:Value} (hE:EsL w B [y] ve) (hBo:SsL w B [] vb) (hEl:SsL w B [] vl) (hB:B≤w.heap.size) (ht:tabs.length+(d+1)≤100) :
  Calls Tryz.prog 119 #[.agg #[.int .u8 1,.int .i64 0,.string (bstr name),ve,vb,vl],.string (bstr tabs)] w (TxtE ([108,101,116,32]++name++[32,61,32]++zab y++[59]) w):=by
 obtain ⟨ea,ec,rfl,-,-⟩:=hE.form;obtain ⟨ba,bc,rfl,-,-⟩:=hBo.form;obtain ⟨la,lc,rfl,-,-⟩:=hEl.form;obtain ⟨W0,hW0,hb0,hO0⟩:∃ W0,W0=w.alloc (.cells #[.int .u8 1,.int .i64 0,.string (bstr name),.slice ea 1 ec,.slice ba 0 bc,.slice la 0 lc] 56)∧Below w.heap.size w W0∧OwnV W0 w.heap.size 56 [.int .u8 1,.int .i64 0,.string (bstr name),.slice ea 1 ec,.slice ba 0 bc,.slice la 0 lc]:=⟨_,rfl,(Below.refl _ _).alloc (zr _) _,OwnV.new _ _ _⟩;obtain ⟨TX,hTX⟩:∃ X:List UInt8,[108,101,116,32]++name++[32,61,32]++zab y++[59]=X:=⟨_,rfl⟩;rw [hTX];have HTX:=zh hTX;clear hTX;have hsz:B≤W0.heap.size:=Nat.le_trans hB hb0.size;have hE0:=hE.low (hb0.mono hB);have hBo0:=hBo.low (hb0.mono hB);have hEl0:=hEl.low (hb0.mono hB);obtain ⟨TB,hTB⟩:∃ S,bstr tabs=S:=⟨_,rfl⟩;have htl:TB.size≤100:=by rw [← hTB,zaC];omega
 obtain ⟨b,off,op0,n0,nm0,as0,aa0,ac0,rfl,-,-,hy0,c0,c1,c2,c3,hA0⟩:=hE0.at (k:=0) (by simp);cases hy0;obtain ⟨S0,hS0⟩:∃ S,bstr (zab (.mk op0 n0 nm0 as0))=S:=⟨_,rfl⟩;have hln0:S0.size≤1000000000000010:=by rw [← hS0,zaC];have:=zaE h0 (zr _) 1;rw [zaL] at this;omega
 have HA0:Hid (∀ W,Below W0.heap.size W0 W→Calls Tryz.prog 77 #[.agg #[.int .u8 op0,.int .i64 n0,.string (bstr nm0),.slice aa0 as0.length ac0]] W fun e w'=>e=.returned (.string S0)∧Below W.heap.size W w'):=zh (fun W hb=>by rw [← hS0];exact rwrite_shp h0 (zr _) op0 n0 nm0 as0 _ W rfl (Nat.le_trans hsz hb.size) (hA0.low (hb.mono hsz)));simp only [Nat.zero_mul,Nat.add_zero,Nat.one_mul] at c0 c1 c2 c3;obtain ⟨SN,hSN⟩:∃ S,bstr name=S:=⟨_,rfl⟩;have hnl:SN.size≤24:=by rw [← hSN,zaC];exact hn
 have HT:Hid (bstr TX=((({ data:=#[108,101,116,32] }++SN)++{ data:=#[32,61,32] })++S0)++{ data:=#[59] }):=zh (by
  rw [← HTX.out,← hS0,← hSN,show ({ data:=#[108,101,116,32] }:ByteArray)=bstr [108,101,116,32] from rfl,show ({ data:=#[32,61,32] }:ByteArray)=bstr [32,61,32] from rfl,show ({ data:=#[59] }:ByteArray)=bstr [59] from rfl]
  simp [zax,zaZ])
 rw [hSN] at hO0 hW0 ⊢;have HW0:=zh hW0;have Hb0:=zh hb0;have x0:=hO0.cell (i:=0) rfl;have x2:=hO0.cell (i:=2) rfl;have x3:=hO0.cell (i:=3) rfl;clear hW0 hO0 hb0 hE hBo hEl hE0 hBo0 hEl0 ht hS0 hSN hA0 h0 hn hTB;go_enter Tryz.func119,Tryz.ntmps119
 go_upto_region 1 with (fail)
 rw [← HW0.out];go_wp2_with fail
 refine zac (fun w'=>Below W0.heap.size W0 w') (by kernel_rfl) (by kernel_rfl) ((Below.refl _ _).drew) ?_
 repeat
  try simp only [Act.put,zs1,zs3,zs2]
  apply stepsSeq.cons
  ·intro w' hb1;have Hb1':=zh hb1;have x2':=Below.keep hb1 x2;have x3':=Below.keep hb1 x3;have c0':=Below.keep hb1 c0;have c1':=Below.keep hb1 c1;have c2':=Below.keep hb1 c2;have c3':=Below.keep hb1 c3;simp only [Act.put,zs1,zs3,zs2];go_wp2_with ((go_at_call_of 77 (Value.agg #[Value.int IntKind.u8 op0,Value.int IntKind.i64 n0,Value.string (bstr nm0),Value.slice aa0 as0.length ac0]);refine (HA0.out _ Hb1'.out).mono ?_;rintro e2 w2 ⟨rfl,hb2⟩))
   first | exact ⟨rfl,Hb1'.out⟩ | exact ⟨rfl,Hb1'.out.trans (hb2.mono Hb1'.out.size)⟩
 try simp only [Act.put,zs1,zs3,zs2]
 refine stepsSeq.nil ?_;intro w' hb1;have HB2:=zh (Hb0.out.trans (hb1.mono Hb0.out.size));clear hb1 x0 x2 x3 c0 c1 c2 c3;go_wp2_with fail
 exact bodyPost_ret (v:=.string (((({ data:=#[108,101,116,32] }++SN)++{ data:=#[32,61,32] })++S0)++{ data:=#[59] })) (by simp [results,Tryz.results119,go_sem]) rfl ⟨by rw [HT.out],HB2.out⟩
theorem ro_set {w:World} {B d:Nat} {tabs:List UInt8} {name:List UInt8} {y:Ex} (hn:name.length≤24) (h0:Shp 40 y) {ve vb vl:Value} (hE:EsL w B [y] ve) (hBo:SsL w B [] vb) (hEl:SsL w B [] vl) (hB:B≤w.heap.size) (ht:tabs.length+(d+1)≤100) :
  Calls Tryz.prog 119 #[.agg #[.int .u8 2,.int .i64 0,.string (bstr name),ve,vb,vl],.string (bstr tabs)] w (TxtE (name++[32,61,32]++zab y++[59]) w):=by
 obtain ⟨ea,ec,rfl,-,-⟩:=hE.form;obtain ⟨ba,bc,rfl,-,-⟩:=hBo.form;obtain ⟨la,lc,rfl,-,-⟩:=hEl.form;obtain ⟨W0,hW0,hb0,hO0⟩:∃ W0,W0=w.alloc (.cells #[.int .u8 2,.int .i64 0,.string (bstr name),.slice ea 1 ec,.slice ba 0 bc,.slice la 0 lc] 56)∧Below w.heap.size w W0∧OwnV W0 w.heap.size 56 [.int .u8 2,.int .i64 0,.string (bstr name),.slice ea 1 ec,.slice ba 0 bc,.slice la 0 lc]:=⟨_,rfl,(Below.refl _ _).alloc (zr _) _,OwnV.new _ _ _⟩;obtain ⟨TX,hTX⟩:∃ X:List UInt8,name++[32,61,32]++zab y++[59]=X:=⟨_,rfl⟩;rw [hTX];have HTX:=zh hTX;clear hTX;have hsz:B≤W0.heap.size:=Nat.le_trans hB hb0.size;have hE0:=hE.low (hb0.mono hB);have hBo0:=hBo.low (hb0.mono hB);have hEl0:=hEl.low (hb0.mono hB);obtain ⟨TB,hTB⟩:∃ S,bstr tabs=S:=⟨_,rfl⟩;have htl:TB.size≤100:=by rw [← hTB,zaC];omega
 obtain ⟨b,off,op0,n0,nm0,as0,aa0,ac0,rfl,-,-,hy0,c0,c1,c2,c3,hA0⟩:=hE0.at (k:=0) (by simp);cases hy0;obtain ⟨S0,hS0⟩:∃ S,bstr (zab (.mk op0 n0 nm0 as0))=S:=⟨_,rfl⟩;have hln0:S0.size≤1000000000000010:=by rw [← hS0,zaC];have:=zaE h0 (zr _) 1;rw [zaL] at this;omega
 have HA0:Hid (∀ W,Below W0.heap.size W0 W→Calls Tryz.prog 77 #[.agg #[.int .u8 op0,.int .i64 n0,.string (bstr nm0),.slice aa0 as0.length ac0]] W fun e w'=>e=.returned (.string S0)∧Below W.heap.size W w'):=zh (fun W hb=>by rw [← hS0];exact rwrite_shp h0 (zr _) op0 n0 nm0 as0 _ W rfl (Nat.le_trans hsz hb.size) (hA0.low (hb.mono hsz)));simp only [Nat.zero_mul,Nat.add_zero,Nat.one_mul] at c0 c1 c2 c3;obtain ⟨SN,hSN⟩:∃ S,bstr name=S:=⟨_,rfl⟩;have hnl:SN.size≤24:=by rw [← hSN,zaC];exact hn
 have HT:Hid (bstr TX=((SN++{ data:=#[32,61,32] })++S0)++{ data:=#[59] }):=zh (by
  rw [← HTX.out,← hS0,← hSN,show ({ data:=#[32,61,32] }:ByteArray)=bstr [32,61,32] from rfl,show ({ data:=#[59] }:ByteArray)=bstr [59] from rfl]
  simp [zax,zaZ])
 rw [hSN] at hO0 hW0 ⊢;have HW0:=zh hW0;have Hb0:=zh hb0;have x0:=hO0.cell (i:=0) rfl;have x2:=hO0.cell (i:=2) rfl;have x3:=hO0.cell (i:=3) rfl;clear hW0 hO0 hb0 hE hBo hEl hE0 hBo0 hEl0 ht hS0 hSN hA0 h0 hn hTB;go_enter Tryz.func119,Tryz.ntmps119
 go_upto_region 1 with (fail)
 rw [← HW0.out];go_wp2_with fail
 refine zac (fun w'=>Below W0.heap.size W0 w') (by kernel_rfl) (by kernel_rfl) ((Below.refl _ _).drew) ?_
 repeat
  try simp only [Act.put,zs1,zs3,zs2]
  apply stepsSeq.cons
  ·intro w' hb1;have Hb1':=zh hb1;have x2':=Below.keep hb1 x2;have x3':=Below.keep hb1 x3;have c0':=Below.keep hb1 c0;have c1':=Below.keep hb1 c1;have c2':=Below.keep hb1 c2;have c3':=Below.keep hb1 c3;simp only [Act.put,zs1,zs3,zs2];go_wp2_with ((go_at_call_of 77 (Value.agg #[Value.int IntKind.u8 op0,Value.int IntKind.i64 n0,Value.string (bstr nm0),Value.slice aa0 as0.length ac0]);refine (HA0.out _ Hb1'.out).mono ?_;rintro e2 w2 ⟨rfl,hb2⟩))
   first | exact ⟨rfl,Hb1'.out⟩ | exact ⟨rfl,Hb1'.out.trans (hb2.mono Hb1'.out.size)⟩
 try simp only [Act.put,zs1,zs3,zs2]
 refine stepsSeq.nil ?_;intro w' hb1;have HB2:=zh (Hb0.out.trans (hb1.mono Hb0.out.size));clear hb1 x0 x2 x3 c0 c1 c2 c3;go_wp2_with fail
 exact bodyPost_ret (v:=.string (((SN++{ data:=#[32,61,32] })++S0)++{ data:=#[59] })) (by simp [results,Tryz.results119,go_sem]) rfl ⟨by rw [HT.out],HB2.out⟩
theorem ro_put {w:World} {B d:Nat} {tabs:List UInt8} {M:Nat} {y z:Ex} (hn2:M < 10) (h0:Shp 40 y) (h1:Shp 40 z) {ve vb vl:Value} (hE:EsL w B [y,z] ve) (hBo:SsL w B [] vb) (hEl:SsL w B [] vl) (hB:B≤w.heap.size) (ht:tabs.length+(d+1)≤100) :
  Calls Tryz.prog 119 #[.agg #[.int .u8 3,.int .i64 ((M:Int)+1),.string (bstr []),ve,vb,vl],.string (bstr tabs)] w (TxtE (kindWords.getD M []++[91]++zab y++[93,32,61,32]++zab z++[59]) w):=by
 obtain ⟨ea,ec,rfl,-,-⟩:=hE.form;obtain ⟨ba,bc,rfl,-,-⟩:=hBo.form;obtain ⟨la,lc,rfl,-,-⟩:=hEl.form;obtain ⟨W0,hW0,hb0,hO0⟩:∃ W0,W0=w.alloc (.cells #[.int .u8 3,.int .i64 ((M:Int)+1),.string (bstr []),.slice ea 2 ec,.slice ba 0 bc,.slice la 0 lc] 56)∧Below w.heap.size w W0∧OwnV W0 w.heap.size 56 [.int .u8 3,.int .i64 ((M:Int)+1),.string (bstr []),.slice ea 2 ec,.slice ba 0 bc,.slice la 0 lc]:=⟨_,rfl,(Below.refl _ _).alloc (zr _) _,OwnV.new _ _ _⟩;obtain ⟨TX,hTX⟩:∃ X:List UInt8,kindWords.getD M []++[91]++zab y++[93,32,61,32]++zab z++[59]=X:=⟨_,rfl⟩;rw [hTX];have HTX:=zh hTX;clear hTX;have hsz:B≤W0.heap.size:=Nat.le_trans hB hb0.size;have hE0:=hE.low (hb0.mono hB);have hBo0:=hBo.low (hb0.mono hB);have hEl0:=hEl.low (hb0.mono hB);obtain ⟨TB,hTB⟩:∃ S,bstr tabs=S:=⟨_,rfl⟩;have htl:TB.size≤100:=by rw [← hTB,zaC];omega
 obtain ⟨b,off,op0,n0,nm0,as0,aa0,ac0,rfl,-,-,hy0,c0,c1,c2,c3,hA0⟩:=hE0.at (k:=0) (by simp);cases hy0;obtain ⟨S0,hS0⟩:∃ S,bstr (zab (.mk op0 n0 nm0 as0))=S:=⟨_,rfl⟩;have hln0:S0.size≤1000000000000010:=by rw [← hS0,zaC];have:=zaE h0 (zr _) 1;rw [zaL] at this;omega
 have HA0:Hid (∀ W,Below W0.heap.size W0 W→Calls Tryz.prog 77 #[.agg #[.int .u8 op0,.int .i64 n0,.string (bstr nm0),.slice aa0 as0.length ac0]] W fun e w'=>e=.returned (.string S0)∧Below W.heap.size W w'):=zh (fun W hb=>by rw [← hS0];exact rwrite_shp h0 (zr _) op0 n0 nm0 as0 _ W rfl (Nat.le_trans hsz hb.size) (hA0.low (hb.mono hsz)));obtain ⟨b1,off1,op1,n1,nm1,as1,aa1,ac1,hx1,-,-,hy1,d0,d1,d2,d3,hA1⟩:=hE0.at (k:=1) (by simp);cases hx1;cases hy1;obtain ⟨S1,hS1⟩:∃ S,bstr (zab (.mk op1 n1 nm1 as1))=S:=⟨_,rfl⟩;have hln1:S1.size≤1000000000000010:=by rw [← hS1,zaC];have:=zaE h1 (zr _) 1;rw [zaL] at this;omega
 have HA1:Hid (∀ W,Below W0.heap.size W0 W→Calls Tryz.prog 77 #[.agg #[.int .u8 op1,.int .i64 n1,.string (bstr nm1),.slice aa1 as1.length ac1]] W fun e w'=>e=.returned (.string S1)∧Below W.heap.size W w'):=zh (fun W hb=>by rw [← hS1];exact rwrite_shp h1 (zr _) op1 n1 nm1 as1 _ W rfl (Nat.le_trans hsz hb.size) (hA1.low (hb.mono hsz)));simp only [Nat.zero_mul,Nat.add_zero,Nat.one_mul] at c0 c1 c2 c3 d0 d1 d2 d3;obtain ⟨KW,hKW⟩:∃ K,bstr (kindWords.getD M [])=K:=⟨_,rfl⟩
 have hkl:KW.size≤100:=by
  rw [← hKW,zaC];have:=zd7 (n:=(M:Int)+1) (by omega) (by omega);rw [show ((M:Int)+1 - 1).toNat=M by omega] at this;omega
 have HT:Hid (bstr TX=(((((KW++{ data:=#[91] })++S0)++{ data:=#[93,32,61,32] })++S1)++{ data:=#[59] })):=zh (by
  rw [← HTX.out,← hS0,← hS1,← hKW,show ({ data:=#[91] }:ByteArray)=bstr [91] from rfl,show ({ data:=#[93,32,61,32] }:ByteArray)=bstr [93,32,61,32] from rfl,show ({ data:=#[59] }:ByteArray)=bstr [59] from rfl]
  simp [zax,zaZ])
 have HKW:=zh hKW;have hN1:(0:Int)≤(M:Int):=by omega
 have hN2:(M:Int) < 10:=by omega
 have hN3:¬ (M:Int) < 0:=by omega
 have hw:IntKind.i64.wrap (M:Int)=M:=by simp [IntKind.wrap,IntKind.bits,IntKind.signed];omega
 have HW0:=zh hW0;have Hb0:=zh hb0;have x0:=hO0.cell (i:=0) rfl;have x1:=hO0.cell (i:=1) rfl;have x3:=hO0.cell (i:=3) rfl;clear hW0 hO0 hb0 hE hBo hEl hE0 hBo0 hEl0 ht hS0 hS1 hKW hA0 hA1 h0 h1 hTB;go_enter Tryz.func119,Tryz.ntmps119
 go_upto_region 1 with (fail)
 rw [← HW0.out];go_wp2_with fail
 have Hc:Hid (∀ w',Below W0.heap.size W0 w'→(w'.cell? ⟨w.heap.size,1,none⟩=some (.int .i64 ((M:Int)+1))∧w'.cell? ⟨w.heap.size,3,none⟩=some (.slice (some ⟨b,off,none⟩) 2 ec))∧(w'.cell? ⟨b,off,none⟩=some (.int .u8 op0)∧w'.cell? ⟨b,off+1,none⟩=some (.int .i64 n0)∧w'.cell? ⟨b,off+2,none⟩=some (.string (bstr nm0))∧w'.cell? ⟨b,off+3,none⟩=some (.slice aa0 as0.length ac0))∧w'.cell? ⟨b,off+4,none⟩=some (.int .u8 op1)∧w'.cell? ⟨b,off+4+1,none⟩=some (.int .i64 n1)∧w'.cell? ⟨b,off+4+2,none⟩=some (.string (bstr nm1))∧w'.cell? ⟨b,off+4+3,none⟩=some (.slice aa1 as1.length ac1)):=zh (fun w' hb=>⟨⟨Below.keep hb x1,Below.keep hb x3⟩,⟨Below.keep hb c0,Below.keep hb c1,Below.keep hb c2,Below.keep hb c3⟩,Below.keep hb d0,Below.keep hb d1,Below.keep hb d2,Below.keep hb d3⟩);refine wp_region_rel [none,some (.pointer (some ⟨w.heap.size,1,none⟩)),some (.int .i64 ((M:Int)+1)),some (.int .i64 (M:Int)),none,some (.string KW),some (.string (KW++{ data:=#[91] })),some (.pointer (some ⟨w.heap.size,3,none⟩)),some (.slice (some ⟨b,off,none⟩) 2 ec),some (.pointer (some ⟨b,off,none⟩)),some (.agg #[.int .u8 op0,.int .i64 n0,.string (bstr nm0),.slice aa0 as0.length ac0]),some (.string S0),some (.string ((KW++{ data:=#[91] })++S0)),some (.string (((KW++{ data:=#[91] })++S0)++{ data:=#[93,32,61,32] })),some (.pointer (some ⟨w.heap.size,3,none⟩)),some (.slice (some ⟨b,off,none⟩) 2 ec),some (.pointer (some ⟨b,off+4,none⟩)),some (.agg #[.int .u8 op1,.int .i64 n1,.string (bstr nm1),.slice aa1 as1.length ac1]),some (.string S1),some (.string ((((KW++{ data:=#[91] })++S0)++{ data:=#[93,32,61,32] })++S1)),some (.string (((((KW++{ data:=#[91] })++S0)++{ data:=#[93,32,61,32] })++S1)++{ data:=#[59] })),some (.string (((((KW++{ data:=#[91] })++S0)++{ data:=#[93,32,61,32] })++S1)++{ data:=#[59] }))] (rwComp M KW) (by kernel_rfl) (by kernel_rfl) rfl ?hst ?hconst ?hs ?hf
 case hst =>
  rintro j v w w' ⟨h1,h2⟩ hb;refine ⟨fun e=>?_,fun e=>?_⟩
  ·obtain ⟨kb,koff,kcap,e1,e2⟩:=h1 e;exact ⟨kb,koff,kcap,e1,Below.keep hb e2⟩
  ·obtain ⟨kb,ko,e1,e2⟩:=h2 e;exact ⟨kb,ko,e1,Below.keep hb e2⟩
 case hconst =>
  refine fun j v w h=>⟨fun e=>?_,fun e=>?_⟩
  all_goals
   subst e;simp at h
 case hf =>
  intro X w5 hb _;simp only [zfb,fill_nil,tmpl_some,tmpl_none,tmpl_nil,Nat.reduceAdd,Act.put,zs1,zs3,zs2];have Hb5:Hid (Below w.heap.size w w5):=zh (Hb0.out.trans ((show Below W0.heap.size W0 w5 from ⟨hb.os,hb.tape,hb.output,hb.size,hb.block⟩).mono Hb0.out.size));clear hb x0 x1 x3 c0 c1 c2 c3 d0 d1 d2 d3;go_wp2_with fail
  exact bodyPost_ret (v:=.string ((((((KW++{ data:=#[91] })++S0)++{ data:=#[93,32,61,32] })++S1)++{ data:=#[59] }))) (by simp [results,Tryz.results119,go_sem]) rfl ⟨by rw [HT.out],Hb5.out⟩
 case hs =>
  simp only [zfb,fill_nil,tmpl_some,tmpl_none,tmpl_nil,Nat.reduceAdd,Act.put,zs1,zs3,zs2];refine stepsRel.cons ?_ (stepsRel.cons ?_ (stepsRel.cons ?_ (stepsRel.cons ?_ (stepsRel.cons ?_ (stepsRel.cons ?_ (stepsRel.cons ?_ (stepsRel.cons ?_ (stepsRel.cons ?_ (stepsRel.cons ?_ (stepsRel.cons ?_ (stepsRel.cons ?_ (stepsRel.cons ?_ (stepsRel.cons ?_ (stepsRel.cons ?_ (stepsRel.cons ?_ (stepsRel.cons ?_ (stepsRel.cons ?_ (stepsRel.cons ?_ (stepsRel.cons ?_ (stepsRel.cons ?_ (stepsRel.cons ?_ (stepsRel.nil))))))))))))))))))))))
  ·intro X w5 hb hp;have hb':Below W0.heap.size W0 w5:=⟨hb.os,hb.tape,hb.output,hb.size,hb.block⟩;obtain ⟨⟨x1,x3⟩,⟨c0,c1,c2,c3⟩,d0,d1,d2,d3⟩:=Hc.out _ hb';clear hp hb;go_wp2_with fail
   go_at_call 51;refine (zlN _).mono ?_;rintro e3 w3 ⟨v3,rfl,hS3,hb3⟩;obtain ⟨kb,koff,kcap,rfl,kc⟩:=rkinds_cell (N:=M+1) hS3 (by omega) (by omega);rw [show M+1 - 1=M from rfl,HKW.out] at kc;clear hS3;go_wp2_with fail
   refine ⟨⟨_,rfl,?_⟩,hb3⟩;exact (show rwComp M KW 0 _ _ from ⟨fun _=>⟨kb,koff,kcap,rfl,kc⟩,fun e=>by cases e⟩)
  ·intro X w5 hb hp;have hb':Below W0.heap.size W0 w5:=⟨hb.os,hb.tape,hb.output,hb.size,hb.block⟩;obtain ⟨⟨x1,x3⟩,⟨c0,c1,c2,c3⟩,d0,d1,d2,d3⟩:=Hc.out _ hb';clear hp hb;go_wp2_with fail
   exact ⟨⟨_,rfl,rfl⟩,Below.refl _ _⟩
  ·intro X w5 hb hp;have hb':Below W0.heap.size W0 w5:=⟨hb.os,hb.tape,hb.output,hb.size,hb.block⟩;obtain ⟨⟨x1,x3⟩,⟨c0,c1,c2,c3⟩,d0,d1,d2,d3⟩:=Hc.out _ hb';clear hp hb;go_wp2_with fail
   exact ⟨⟨_,rfl,rfl⟩,Below.refl _ _⟩
  ·intro X w5 hb hp;have hb':Below W0.heap.size W0 w5:=⟨hb.os,hb.tape,hb.output,hb.size,hb.block⟩;obtain ⟨⟨x1,x3⟩,⟨c0,c1,c2,c3⟩,d0,d1,d2,d3⟩:=Hc.out _ hb';clear hp hb;go_wp2_with fail
   exact ⟨⟨_,rfl,rfl⟩,Below.refl _ _⟩
  ·intro X w5 hb hp;have hb':Below W0.heap.size W0 w5:=⟨hb.os,hb.tape,hb.output,hb.size,hb.block⟩;obtain ⟨⟨x1,x3⟩,⟨c0,c1,c2,c3⟩,d0,d1,d2,d3⟩:=Hc.out _ hb';obtain ⟨kb,koff,kcap,e,kc⟩:=(hp 0 (by kernel_rfl)).1 rfl;rw [e];clear hp hb e;go_wp2_with fail
   refine ⟨⟨_,rfl,?_⟩,Below.refl _ _⟩;exact (show rwComp M KW 4 _ _ from ⟨fun e=>(by cases e),fun _=>⟨kb,_,rfl,kc⟩⟩)
  ·intro X w5 hb hp;have hb':Below W0.heap.size W0 w5:=⟨hb.os,hb.tape,hb.output,hb.size,hb.block⟩;obtain ⟨⟨x1,x3⟩,⟨c0,c1,c2,c3⟩,d0,d1,d2,d3⟩:=Hc.out _ hb';obtain ⟨kb,ko,e,kc⟩:=(hp 4 (by kernel_rfl)).2 rfl;rw [e];clear hp hb e;go_wp2_with fail
   exact ⟨⟨_,rfl,rfl⟩,Below.refl _ _⟩
  ·intro X w5 hb hp;have hb':Below W0.heap.size W0 w5:=⟨hb.os,hb.tape,hb.output,hb.size,hb.block⟩;obtain ⟨⟨x1,x3⟩,⟨c0,c1,c2,c3⟩,d0,d1,d2,d3⟩:=Hc.out _ hb';clear hp hb;go_wp2_with fail
   exact ⟨⟨_,rfl,rfl⟩,Below.refl _ _⟩
  ·intro X w5 hb hp;have hb':Below W0.heap.size W0 w5:=⟨hb.os,hb.tape,hb.output,hb.size,hb.block⟩;obtain ⟨⟨x1,x3⟩,⟨c0,c1,c2,c3⟩,d0,d1,d2,d3⟩:=Hc.out _ hb';clear hp hb;go_wp2_with fail
   exact ⟨⟨_,rfl,rfl⟩,Below.refl _ _⟩
  ·intro X w5 hb hp;have hb':Below W0.heap.size W0 w5:=⟨hb.os,hb.tape,hb.output,hb.size,hb.block⟩;obtain ⟨⟨x1,x3⟩,⟨c0,c1,c2,c3⟩,d0,d1,d2,d3⟩:=Hc.out _ hb';clear hp hb;go_wp2_with fail
   exact ⟨⟨_,rfl,rfl⟩,Below.refl _ _⟩
  ·intro X w5 hb hp;have hb':Below W0.heap.size W0 w5:=⟨hb.os,hb.tape,hb.output,hb.size,hb.block⟩;obtain ⟨⟨x1,x3⟩,⟨c0,c1,c2,c3⟩,d0,d1,d2,d3⟩:=Hc.out _ hb';clear hp hb;go_wp2_with fail
   exact ⟨⟨_,rfl,rfl⟩,Below.refl _ _⟩
  ·intro X w5 hb hp;have hb':Below W0.heap.size W0 w5:=⟨hb.os,hb.tape,hb.output,hb.size,hb.block⟩;obtain ⟨⟨x1,x3⟩,⟨c0,c1,c2,c3⟩,d0,d1,d2,d3⟩:=Hc.out _ hb';clear hp hb;go_wp2_with fail
   exact ⟨⟨_,rfl,rfl⟩,Below.refl _ _⟩
  ·intro X w5 hb hp;have hb':Below W0.heap.size W0 w5:=⟨hb.os,hb.tape,hb.output,hb.size,hb.block⟩;obtain ⟨⟨x1,x3⟩,⟨c0,c1,c2,c3⟩,d0,d1,d2,d3⟩:=Hc.out _ hb';clear hp hb;go_wp2_with fail
   go_at_call 77;refine (HA0.out _ hb').mono ?_;rintro e4 w4 ⟨rfl,hb4⟩;have Hb4:=zh hb4;clear hb4;go_wp2_with fail
   exact ⟨⟨_,rfl,rfl⟩,Hb4.out⟩
  ·intro X w5 hb hp;have hb':Below W0.heap.size W0 w5:=⟨hb.os,hb.tape,hb.output,hb.size,hb.block⟩;obtain ⟨⟨x1,x3⟩,⟨c0,c1,c2,c3⟩,d0,d1,d2,d3⟩:=Hc.out _ hb';clear hp hb;go_wp2_with fail
   exact ⟨⟨_,rfl,rfl⟩,Below.refl _ _⟩
  ·intro X w5 hb hp;have hb':Below W0.heap.size W0 w5:=⟨hb.os,hb.tape,hb.output,hb.size,hb.block⟩;obtain ⟨⟨x1,x3⟩,⟨c0,c1,c2,c3⟩,d0,d1,d2,d3⟩:=Hc.out _ hb';clear hp hb;go_wp2_with fail
   exact ⟨⟨_,rfl,rfl⟩,Below.refl _ _⟩
  ·intro X w5 hb hp;have hb':Below W0.heap.size W0 w5:=⟨hb.os,hb.tape,hb.output,hb.size,hb.block⟩;obtain ⟨⟨x1,x3⟩,⟨c0,c1,c2,c3⟩,d0,d1,d2,d3⟩:=Hc.out _ hb';clear hp hb;go_wp2_with fail
   exact ⟨⟨_,rfl,rfl⟩,Below.refl _ _⟩
  ·intro X w5 hb hp;have hb':Below W0.heap.size W0 w5:=⟨hb.os,hb.tape,hb.output,hb.size,hb.block⟩;obtain ⟨⟨x1,x3⟩,⟨c0,c1,c2,c3⟩,d0,d1,d2,d3⟩:=Hc.out _ hb';clear hp hb;go_wp2_with fail
   exact ⟨⟨_,rfl,rfl⟩,Below.refl _ _⟩
  ·intro X w5 hb hp;have hb':Below W0.heap.size W0 w5:=⟨hb.os,hb.tape,hb.output,hb.size,hb.block⟩;obtain ⟨⟨x1,x3⟩,⟨c0,c1,c2,c3⟩,d0,d1,d2,d3⟩:=Hc.out _ hb';clear hp hb;go_wp2_with fail
   exact ⟨⟨_,rfl,rfl⟩,Below.refl _ _⟩
  ·intro X w5 hb hp;have hb':Below W0.heap.size W0 w5:=⟨hb.os,hb.tape,hb.output,hb.size,hb.block⟩;obtain ⟨⟨x1,x3⟩,⟨c0,c1,c2,c3⟩,d0,d1,d2,d3⟩:=Hc.out _ hb';clear hp hb;go_wp2_with fail
   exact ⟨⟨_,rfl,rfl⟩,Below.refl _ _⟩
  ·intro X w5 hb hp;have hb':Below W0.heap.size W0 w5:=⟨hb.os,hb.tape,hb.output,hb.size,hb.block⟩;obtain ⟨⟨x1,x3⟩,⟨c0,c1,c2,c3⟩,d0,d1,d2,d3⟩:=Hc.out _ hb';clear hp hb;go_wp2_with fail
   go_at_call 77;refine (HA1.out _ hb').mono ?_;rintro e4 w4 ⟨rfl,hb4⟩;have Hb4:=zh hb4;clear hb4;go_wp2_with fail
   exact ⟨⟨_,rfl,rfl⟩,Hb4.out⟩
  ·intro X w5 hb hp;have hb':Below W0.heap.size W0 w5:=⟨hb.os,hb.tape,hb.output,hb.size,hb.block⟩;obtain ⟨⟨x1,x3⟩,⟨c0,c1,c2,c3⟩,d0,d1,d2,d3⟩:=Hc.out _ hb';clear hp hb;go_wp2_with fail
   exact ⟨⟨_,rfl,rfl⟩,Below.refl _ _⟩
  ·intro X w5 hb hp;have hb':Below W0.heap.size W0 w5:=⟨hb.os,hb.tape,hb.output,hb.size,hb.block⟩;obtain ⟨⟨x1,x3⟩,⟨c0,c1,c2,c3⟩,d0,d1,d2,d3⟩:=Hc.out _ hb';clear hp hb;go_wp2_with fail
   exact ⟨⟨_,rfl,rfl⟩,Below.refl _ _⟩
  ·intro X w5 hb hp;have hb':Below W0.heap.size W0 w5:=⟨hb.os,hb.tape,hb.output,hb.size,hb.block⟩;obtain ⟨⟨x1,x3⟩,⟨c0,c1,c2,c3⟩,d0,d1,d2,d3⟩:=Hc.out _ hb';clear hp hb;go_wp2_with fail
   exact ⟨⟨_,rfl,rfl⟩,Below.refl _ _⟩
theorem ro_while {w:World} {B d:Nat} {tabs:List UInt8} {y:Ex} {body:List St} (h0:Shp 40 y) (hLb:LnR B d body) (hbl:(zaM (tabs++[9]) body).length≤1000000000000000)  {ve vb vl:Value} (hE:EsL w B [y] ve) (hBo:SsL w B body vb) (hEl:SsL w B [] vl) (hB:B≤w.heap.size) (ht:tabs.length+(d+1)≤100) :
  Calls Tryz.prog 119 #[.agg #[.int .u8 5,.int .i64 0,.string (bstr []),ve,vb,vl],.string (bstr tabs)] w (TxtE ([119,104,105,108,101,32]++([40]++zab y++[41,32,123,10]++zaM (tabs++[9]) body++tabs++[125])) w):=by
 obtain ⟨ea,ec,rfl,-,-⟩:=hE.form;obtain ⟨ba,bc,rfl,-,-⟩:=hBo.form;obtain ⟨la,lc,rfl,-,-⟩:=hEl.form;obtain ⟨W0,hW0,hb0,hO0⟩:∃ W0,W0=w.alloc (.cells #[.int .u8 5,.int .i64 0,.string (bstr []),.slice ea 1 ec,.slice ba body.length bc,.slice la 0 lc] 56)∧Below w.heap.size w W0∧OwnV W0 w.heap.size 56 [.int .u8 5,.int .i64 0,.string (bstr []),.slice ea 1 ec,.slice ba body.length bc,.slice la 0 lc]:=⟨_,rfl,(Below.refl _ _).alloc (zr _) _,OwnV.new _ _ _⟩;obtain ⟨TX,hTX⟩:∃ X:List UInt8,[119,104,105,108,101,32]++([40]++zab y++[41,32,123,10]++zaM (tabs++[9]) body++tabs++[125])=X:=⟨_,rfl⟩;rw [hTX];have HTX:=zh hTX;clear hTX;have hsz:B≤W0.heap.size:=Nat.le_trans hB hb0.size;have hE0:=hE.low (hb0.mono hB);have hBo0:=hBo.low (hb0.mono hB);have hEl0:=hEl.low (hb0.mono hB);obtain ⟨TB,hTB⟩:∃ S,bstr tabs=S:=⟨_,rfl⟩;have htl:TB.size≤100:=by rw [← hTB,zaC];omega
 obtain ⟨b,off,op0,n0,nm0,as0,aa0,ac0,rfl,-,-,hy0,c0,c1,c2,c3,hA0⟩:=hE0.at (k:=0) (by simp);cases hy0;obtain ⟨S0,hS0⟩:∃ S,bstr (zab (.mk op0 n0 nm0 as0))=S:=⟨_,rfl⟩;have hln0:S0.size≤1000000000000010:=by rw [← hS0,zaC];have:=zaE h0 (zr _) 1;rw [zaL] at this;omega
 have HA0:Hid (∀ W,Below W0.heap.size W0 W→Calls Tryz.prog 77 #[.agg #[.int .u8 op0,.int .i64 n0,.string (bstr nm0),.slice aa0 as0.length ac0]] W fun e w'=>e=.returned (.string S0)∧Below W.heap.size W w'):=zh (fun W hb=>by rw [← hS0];exact rwrite_shp h0 (zr _) op0 n0 nm0 as0 _ W rfl (Nat.le_trans hsz hb.size) (hA0.low (hb.mono hsz)));simp only [Nat.zero_mul,Nat.add_zero,Nat.one_mul] at c0 c1 c2 c3;obtain ⟨SB,hSB⟩:∃ S,bstr (zaM (tabs++[9]) body)=S:=⟨_,rfl⟩;have hlSB:SB.size≤1000000000000000:=by rw [← hSB,zaC];exact hbl
 have HLB:Hid (∀ W,Below W0.heap.size W0 W→Calls Tryz.prog 74 #[.slice ba body.length bc,.string (TB++{ data:=#[9] })] W fun e w'=>e=.returned (.string SB)∧Below W.heap.size W w'):=zh (fun W hb=>by
  rw [← hSB,show TB++{ data:=#[9] } = bstr (tabs++[9]) by rw [← zax,← hTB];rfl]
  exact hLb _ (tabs++[9]) W (Nat.le_trans hsz hb.size) (hBo0.low (hb.mono hsz)) (by simp;omega) hbl)
 have HT:Hid (bstr TX={ data:=#[119,104,105,108,101,32] }++((((({ data:=#[40] }++S0)++{ data:=#[41,32,123,10] })++SB)++TB)++{ data:=#[125] })):=zh (by
  rw [← HTX.out,← hS0,← hSB,← hTB,show ({ data:=#[40] }:ByteArray)=bstr [40] from rfl,show ({ data:=#[41,32,123,10] }:ByteArray)=bstr [41,32,123,10] from rfl,show ({ data:=#[125] }:ByteArray)=bstr [125] from rfl,show ({ data:=#[119,104,105,108,101,32] }:ByteArray)=bstr [119,104,105,108,101,32] from rfl]
  simp [zax,zaZ])
 rw [hTB];have HW0:=zh hW0;have Hb0:=zh hb0;have x0:=hO0.cell (i:=0) rfl;have x3:=hO0.cell (i:=3) rfl;have x4:=hO0.cell (i:=4) rfl;clear hW0 hO0 hb0 hE hBo hEl hE0 hBo0 hEl0 ht hS0 hSB hA0 h0 hLb hbl hTB ;go_enter Tryz.func119,Tryz.ntmps119
 go_upto_region 1 with (fail)
 rw [← HW0.out];go_wp2_with fail
 refine zac (fun w'=>Below W0.heap.size W0 w') (by kernel_rfl) (by kernel_rfl) ((Below.refl _ _).drew) ?_
 repeat
  try simp only [Act.put,zs1,zs3,zs2]
  apply stepsSeq.cons
  ·intro w' hb1;have Hb1':=zh hb1;have x3':=Below.keep hb1 x3;have x4':=Below.keep hb1 x4;have c0':=Below.keep hb1 c0;have c1':=Below.keep hb1 c1;have c2':=Below.keep hb1 c2;have c3':=Below.keep hb1 c3;simp only [Act.put,zs1,zs3,zs2];go_wp2_with ((first | (go_at_call_of 77 (Value.agg #[Value.int IntKind.u8 op0,Value.int IntKind.i64 n0,Value.string (bstr nm0),Value.slice aa0 as0.length ac0]);refine (HA0.out _ Hb1'.out).mono ?_;rintro e2 w2 ⟨rfl,hb2⟩) | (go_at_call 74;refine (HLB.out _ Hb1'.out).mono ?_;rintro e2 w2 ⟨rfl,hb2⟩)))
   first | exact ⟨rfl,Hb1'.out⟩ | exact ⟨rfl,Hb1'.out.trans (hb2.mono Hb1'.out.size)⟩
 try simp only [Act.put,zs1,zs3,zs2]
 refine stepsSeq.nil ?_;intro w' hb1;have HB1:=zh (Hb0.out.trans (hb1.mono Hb0.out.size));have Hc1:=zh hb1;replace x0:=Below.keep hb1 x0;clear hb1 x3 x4 c0 c1 c2 c3;go_wp2_with fail
 exact bodyPost_ret (v:=.string ({ data:=#[119,104,105,108,101,32] }++((((({ data:=#[40] }++S0)++{ data:=#[41,32,123,10] })++SB)++TB)++{ data:=#[125] }))) (by simp [results,Tryz.results119,go_sem]) rfl ⟨by rw [HT.out],HB1.out⟩
theorem ro_none {w:World} {B d:Nat} {tabs:List UInt8} {y:Ex} {body:List St} (h0:Shp 40 y) (hLb:LnR B d body) (hbl:(zaM (tabs++[9]) body).length≤1000000000000000)  {ve vb vl:Value} (hE:EsL w B [y] ve) (hBo:SsL w B body vb) (hEl:SsL w B [] vl) (hB:B≤w.heap.size) (ht:tabs.length+(d+1)≤100) :
  Calls Tryz.prog 119 #[.agg #[.int .u8 4,.int .i64 0,.string (bstr []),ve,vb,vl],.string (bstr tabs)] w (TxtE ([105,102,32]++([40]++zab y++[41,32,123,10]++zaM (tabs++[9]) body++tabs++[125])) w):=by
 obtain ⟨ea,ec,rfl,-,-⟩:=hE.form;obtain ⟨ba,bc,rfl,-,-⟩:=hBo.form;obtain ⟨la,lc,rfl,-,-⟩:=hEl.form;obtain ⟨W0,hW0,hb0,hO0⟩:∃ W0,W0=w.alloc (.cells #[.int .u8 4,.int .i64 0,.string (bstr []),.slice ea 1 ec,.slice ba body.length bc,.slice la 0 lc] 56)∧Below w.heap.size w W0∧OwnV W0 w.heap.size 56 [.int .u8 4,.int .i64 0,.string (bstr []),.slice ea 1 ec,.slice ba body.length bc,.slice la 0 lc]:=⟨_,rfl,(Below.refl _ _).alloc (zr _) _,OwnV.new _ _ _⟩;obtain ⟨TX,hTX⟩:∃ X:List UInt8,[105,102,32]++([40]++zab y++[41,32,123,10]++zaM (tabs++[9]) body++tabs++[125])=X:=⟨_,rfl⟩;rw [hTX];have HTX:=zh hTX;clear hTX;have hsz:B≤W0.heap.size:=Nat.le_trans hB hb0.size;have hE0:=hE.low (hb0.mono hB);have hBo0:=hBo.low (hb0.mono hB);have hEl0:=hEl.low (hb0.mono hB);obtain ⟨TB,hTB⟩:∃ S,bstr tabs=S:=⟨_,rfl⟩;have htl:TB.size≤100:=by rw [← hTB,zaC];omega
 obtain ⟨b,off,op0,n0,nm0,as0,aa0,ac0,rfl,-,-,hy0,c0,c1,c2,c3,hA0⟩:=hE0.at (k:=0) (by simp);cases hy0;obtain ⟨S0,hS0⟩:∃ S,bstr (zab (.mk op0 n0 nm0 as0))=S:=⟨_,rfl⟩;have hln0:S0.size≤1000000000000010:=by rw [← hS0,zaC];have:=zaE h0 (zr _) 1;rw [zaL] at this;omega
 have HA0:Hid (∀ W,Below W0.heap.size W0 W→Calls Tryz.prog 77 #[.agg #[.int .u8 op0,.int .i64 n0,.string (bstr nm0),.slice aa0 as0.length ac0]] W fun e w'=>e=.returned (.string S0)∧Below W.heap.size W w'):=zh (fun W hb=>by rw [← hS0];exact rwrite_shp h0 (zr _) op0 n0 nm0 as0 _ W rfl (Nat.le_trans hsz hb.size) (hA0.low (hb.mono hsz)));simp only [Nat.zero_mul,Nat.add_zero,Nat.one_mul] at c0 c1 c2 c3;obtain ⟨SB,hSB⟩:∃ S,bstr (zaM (tabs++[9]) body)=S:=⟨_,rfl⟩;have hlSB:SB.size≤1000000000000000:=by rw [← hSB,zaC];exact hbl
 have HLB:Hid (∀ W,Below W0.heap.size W0 W→Calls Tryz.prog 74 #[.slice ba body.length bc,.string (TB++{ data:=#[9] })] W fun e w'=>e=.returned (.string SB)∧Below W.heap.size W w'):=zh (fun W hb=>by
  rw [← hSB,show TB++{ data:=#[9] } = bstr (tabs++[9]) by rw [← zax,← hTB];rfl]
  exact hLb _ (tabs++[9]) W (Nat.le_trans hsz hb.size) (hBo0.low (hb.mono hsz)) (by simp;omega) hbl)
 have HT:Hid (bstr TX={ data:=#[105,102,32] }++((((({ data:=#[40] }++S0)++{ data:=#[41,32,123,10] })++SB)++TB)++{ data:=#[125] })):=zh (by
  rw [← HTX.out,← hS0,← hSB,← hTB,show ({ data:=#[40] }:ByteArray)=bstr [40] from rfl,show ({ data:=#[41,32,123,10] }:ByteArray)=bstr [41,32,123,10] from rfl,show ({ data:=#[125] }:ByteArray)=bstr [125] from rfl,show ({ data:=#[105,102,32] }:ByteArray)=bstr [105,102,32] from rfl]
  simp [zax,zaZ])
 rw [hTB];have HW0:=zh hW0;have Hb0:=zh hb0;have x0:=hO0.cell (i:=0) rfl;have x3:=hO0.cell (i:=3) rfl;have x4:=hO0.cell (i:=4) rfl;have x5:=hO0.cell (i:=5) rfl;clear hW0 hO0 hb0 hE hBo hEl hE0 hBo0 hEl0 ht hS0 hSB hA0 h0 hLb hbl hTB ;go_enter Tryz.func119,Tryz.ntmps119
 go_upto_region 1 with (fail)
 rw [← HW0.out];go_wp2_with fail
 refine zac (fun w'=>Below W0.heap.size W0 w') (by kernel_rfl) (by kernel_rfl) ((Below.refl _ _).drew) ?_
 repeat
  try simp only [Act.put,zs1,zs3,zs2]
  apply stepsSeq.cons
  ·intro w' hb1;have Hb1':=zh hb1;have x3':=Below.keep hb1 x3;have x4':=Below.keep hb1 x4;have c0':=Below.keep hb1 c0;have c1':=Below.keep hb1 c1;have c2':=Below.keep hb1 c2;have c3':=Below.keep hb1 c3;simp only [Act.put,zs1,zs3,zs2];go_wp2_with ((first | (go_at_call_of 77 (Value.agg #[Value.int IntKind.u8 op0,Value.int IntKind.i64 n0,Value.string (bstr nm0),Value.slice aa0 as0.length ac0]);refine (HA0.out _ Hb1'.out).mono ?_;rintro e2 w2 ⟨rfl,hb2⟩) | (go_at_call 74;refine (HLB.out _ Hb1'.out).mono ?_;rintro e2 w2 ⟨rfl,hb2⟩)))
   first | exact ⟨rfl,Hb1'.out⟩ | exact ⟨rfl,Hb1'.out.trans (hb2.mono Hb1'.out.size)⟩
 try simp only [Act.put,zs1,zs3,zs2]
 refine stepsSeq.nil ?_;intro w' hb1;have HB1:=zh (Hb0.out.trans (hb1.mono Hb0.out.size));have Hc1:=zh hb1;replace x0:=Below.keep hb1 x0;replace x5:=Below.keep hb1 x5;clear hb1 x3 x4 c0 c1 c2 c3;go_wp2_with fail
 exact bodyPost_ret (v:=.string ({ data:=#[105,102,32] }++((((({ data:=#[40] }++S0)++{ data:=#[41,32,123,10] })++SB)++TB)++{ data:=#[125] }))) (by simp [results,Tryz.results119,go_sem]) rfl ⟨by rw [HT.out],HB1.out⟩
theorem ro_elif {w:World} {B d:Nat} {tabs:List UInt8} {y:Ex} {body:List St} (h0:Shp 40 y) (hLb:LnR B d body) (hbl:(zaM (tabs++[9]) body).length≤1000000000000000) {z:St} (hz:opT z=4) (hOz:OnR B d z) (hzl:(oneW tabs z).length≤1000000000000000)  {ve vb vl:Value} (hE:EsL w B [y] ve) (hBo:SsL w B body vb) (hEl:SsL w B [z] vl) (hB:B≤w.heap.size) (ht:tabs.length+(d+1)≤100) :
  Calls Tryz.prog 119 #[.agg #[.int .u8 4,.int .i64 0,.string (bstr []),ve,vb,vl],.string (bstr tabs)] w (TxtE ([105,102,32]++([40]++zab y++[41,32,123,10]++zaM (tabs++[9]) body++tabs++[125])++[32,101,108,115,101,32]++oneW tabs z) w):=by
 obtain ⟨ea,ec,rfl,-,-⟩:=hE.form;obtain ⟨ba,bc,rfl,-,-⟩:=hBo.form;obtain ⟨la,lc,rfl,-,-⟩:=hEl.form;obtain ⟨W0,hW0,hb0,hO0⟩:∃ W0,W0=w.alloc (.cells #[.int .u8 4,.int .i64 0,.string (bstr []),.slice ea 1 ec,.slice ba body.length bc,.slice la 1 lc] 56)∧Below w.heap.size w W0∧OwnV W0 w.heap.size 56 [.int .u8 4,.int .i64 0,.string (bstr []),.slice ea 1 ec,.slice ba body.length bc,.slice la 1 lc]:=⟨_,rfl,(Below.refl _ _).alloc (zr _) _,OwnV.new _ _ _⟩;obtain ⟨TX,hTX⟩:∃ X:List UInt8,[105,102,32]++([40]++zab y++[41,32,123,10]++zaM (tabs++[9]) body++tabs++[125])++[32,101,108,115,101,32]++oneW tabs z=X:=⟨_,rfl⟩;rw [hTX];have HTX:=zh hTX;clear hTX;have hsz:B≤W0.heap.size:=Nat.le_trans hB hb0.size;have hE0:=hE.low (hb0.mono hB);have hBo0:=hBo.low (hb0.mono hB);have hEl0:=hEl.low (hb0.mono hB);obtain ⟨TB,hTB⟩:∃ S,bstr tabs=S:=⟨_,rfl⟩;have htl:TB.size≤100:=by rw [← hTB,zaC];omega
 obtain ⟨b,off,op0,n0,nm0,as0,aa0,ac0,rfl,-,-,hy0,c0,c1,c2,c3,hA0⟩:=hE0.at (k:=0) (by simp);cases hy0;obtain ⟨S0,hS0⟩:∃ S,bstr (zab (.mk op0 n0 nm0 as0))=S:=⟨_,rfl⟩;have hln0:S0.size≤1000000000000010:=by rw [← hS0,zaC];have:=zaE h0 (zr _) 1;rw [zaL] at this;omega
 have HA0:Hid (∀ W,Below W0.heap.size W0 W→Calls Tryz.prog 77 #[.agg #[.int .u8 op0,.int .i64 n0,.string (bstr nm0),.slice aa0 as0.length ac0]] W fun e w'=>e=.returned (.string S0)∧Below W.heap.size W w'):=zh (fun W hb=>by rw [← hS0];exact rwrite_shp h0 (zr _) op0 n0 nm0 as0 _ W rfl (Nat.le_trans hsz hb.size) (hA0.low (hb.mono hsz)));simp only [Nat.zero_mul,Nat.add_zero,Nat.one_mul] at c0 c1 c2 c3;obtain ⟨SB,hSB⟩:∃ S,bstr (zaM (tabs++[9]) body)=S:=⟨_,rfl⟩;have hlSB:SB.size≤1000000000000000:=by rw [← hSB,zaC];exact hbl
 have HLB:Hid (∀ W,Below W0.heap.size W0 W→Calls Tryz.prog 74 #[.slice ba body.length bc,.string (TB++{ data:=#[9] })] W fun e w'=>e=.returned (.string SB)∧Below W.heap.size W w'):=zh (fun W hb=>by
  rw [← hSB,show TB++{ data:=#[9] } = bstr (tabs++[9]) by rw [← zax,← hTB];rfl]
  exact hLb _ (tabs++[9]) W (Nat.le_trans hsz hb.size) (hBo0.low (hb.mono hsz)) (by simp;omega) hbl)
 obtain ⟨bz,oz,op2,n2,nm2,es2,bd2,el2,ae2,ce2,ab2,cb2,al2,cl2,rfl,-,-,hyz,f0,f1,f2,f3,f4,f5,hzE,hzB,hzL⟩:=hEl0.at (k:=0) (by simp);cases hyz;simp only [Nat.zero_mul,Nat.add_zero] at f0 f1 f2 f3 f4 f5;obtain rfl:op2=4:=hz;obtain ⟨SZ,hSZ⟩:∃ S,bstr (oneW tabs (.mk 4 n2 nm2 es2 bd2 el2))=S:=⟨_,rfl⟩;have hlz:SZ.size≤1000000000000000:=by rw [← hSZ,zaC];exact hzl
 have HOZ:Hid (∀ W,Below W0.heap.size W0 W→Calls Tryz.prog 119 #[.agg #[.int .u8 4,.int .i64 n2,.string (bstr nm2),.slice ae2 es2.length ce2,.slice ab2 bd2.length cb2,.slice al2 el2.length cl2],.string TB] W fun e w'=>e=.returned (.string SZ)∧Below W.heap.size W w'):=zh (fun W hb=>by
  rw [← hSZ,← hTB]
  exact hOz 4 n2 nm2 es2 bd2 el2 _ _ _ tabs W rfl (Nat.le_trans hsz hb.size) (hzE.low (hb.mono hsz)) (hzB.low (hb.mono hsz)) (hzL.low (hb.mono hsz)) (by omega) hzl)
 have HT:Hid (bstr TX=(({ data:=#[105,102,32] }++((((({ data:=#[40] }++S0)++{ data:=#[41,32,123,10] })++SB)++TB)++{ data:=#[125] }))++{ data:=#[32,101,108,115,101,32] })++SZ):=zh (by
  rw [← HTX.out,← hS0,← hSB,← hTB,← hSZ,show ({ data:=#[40] }:ByteArray)=bstr [40] from rfl,show ({ data:=#[41,32,123,10] }:ByteArray)=bstr [41,32,123,10] from rfl,show ({ data:=#[125] }:ByteArray)=bstr [125] from rfl,show ({ data:=#[105,102,32] }:ByteArray)=bstr [105,102,32] from rfl,show ({ data:=#[32,101,108,115,101,32] }:ByteArray)=bstr [32,101,108,115,101,32] from rfl]
  simp [zax,zaZ])
 rw [hTB];have HW0:=zh hW0;have Hb0:=zh hb0;have x0:=hO0.cell (i:=0) rfl;have x3:=hO0.cell (i:=3) rfl;have x4:=hO0.cell (i:=4) rfl;have x5:=hO0.cell (i:=5) rfl;clear hW0 hO0 hb0 hE hBo hEl hE0 hBo0 hEl0 ht hS0 hSB hA0 h0 hLb hbl hTB hSZ hOz hzl hzE hzB hzL;go_enter Tryz.func119,Tryz.ntmps119
 go_upto_region 1 with (fail)
 rw [← HW0.out];go_wp2_with fail
 refine zac (fun w'=>Below W0.heap.size W0 w') (by kernel_rfl) (by kernel_rfl) ((Below.refl _ _).drew) ?_
 repeat
  try simp only [Act.put,zs1,zs3,zs2]
  apply stepsSeq.cons
  ·intro w' hb1;have Hb1':=zh hb1;have x3':=Below.keep hb1 x3;have x4':=Below.keep hb1 x4;have c0':=Below.keep hb1 c0;have c1':=Below.keep hb1 c1;have c2':=Below.keep hb1 c2;have c3':=Below.keep hb1 c3;simp only [Act.put,zs1,zs3,zs2];go_wp2_with ((first | (go_at_call_of 77 (Value.agg #[Value.int IntKind.u8 op0,Value.int IntKind.i64 n0,Value.string (bstr nm0),Value.slice aa0 as0.length ac0]);refine (HA0.out _ Hb1'.out).mono ?_;rintro e2 w2 ⟨rfl,hb2⟩) | (go_at_call 74;refine (HLB.out _ Hb1'.out).mono ?_;rintro e2 w2 ⟨rfl,hb2⟩)))
   first | exact ⟨rfl,Hb1'.out⟩ | exact ⟨rfl,Hb1'.out.trans (hb2.mono Hb1'.out.size)⟩
 try simp only [Act.put,zs1,zs3,zs2]
 refine stepsSeq.nil ?_;intro w' hb1;have HB1:=zh (Hb0.out.trans (hb1.mono Hb0.out.size));have Hc1:=zh hb1;replace x0:=Below.keep hb1 x0;replace x5:=Below.keep hb1 x5;replace f0:=Below.keep hb1 f0;replace f1:=Below.keep hb1 f1;replace f2:=Below.keep hb1 f2;replace f3:=Below.keep hb1 f3;replace f4:=Below.keep hb1 f4;replace f5:=Below.keep hb1 f5;clear hb1 x3 x4 c0 c1 c2 c3;go_wp2_with fail
 go_at_call 119;refine (HOZ.out _ Hc1.out).mono ?_;rintro e3 w3 ⟨rfl,hb3⟩;have HB3:=zh (HB1.out.trans (hb3.mono HB1.out.size));clear hb3 x0 x5 f0 f1 f2 f3 f4 f5;go_wp2_with fail
 exact bodyPost_ret (v:=.string ((({ data:=#[105,102,32] }++((((({ data:=#[40] }++S0)++{ data:=#[41,32,123,10] })++SB)++TB)++{ data:=#[125] }))++{ data:=#[32,101,108,115,101,32] })++SZ)) (by simp [results,Tryz.results119,go_sem]) rfl ⟨by rw [HT.out],HB3.out⟩
theorem ro_else2 {w:World} {B d:Nat} {tabs:List UInt8} {y:Ex} {body:List St} (h0:Shp 40 y) (hLb:LnR B d body) (hbl:(zaM (tabs++[9]) body).length≤1000000000000000) {els:List St} (hlen:2≤els.length) (hLe:LnR B d els) (hel:(zaM (tabs++[9]) els).length≤1000000000000000)  {ve vb vl:Value} (hE:EsL w B [y] ve) (hBo:SsL w B body vb) (hEl:SsL w B els vl) (hB:B≤w.heap.size) (ht:tabs.length+(d+1)≤100) :
  Calls Tryz.prog 119 #[.agg #[.int .u8 4,.int .i64 0,.string (bstr []),ve,vb,vl],.string (bstr tabs)] w (TxtE ([105,102,32]++([40]++zab y++[41,32,123,10]++zaM (tabs++[9]) body++tabs++[125])++[32,101,108,115,101,32,123,10]++zaM (tabs++[9]) els++tabs++[125]) w):=by
 obtain ⟨ea,ec,rfl,-,-⟩:=hE.form;obtain ⟨ba,bc,rfl,-,-⟩:=hBo.form;obtain ⟨la,lc,rfl,-,-⟩:=hEl.form;obtain ⟨W0,hW0,hb0,hO0⟩:∃ W0,W0=w.alloc (.cells #[.int .u8 4,.int .i64 0,.string (bstr []),.slice ea 1 ec,.slice ba body.length bc,.slice la els.length lc] 56)∧Below w.heap.size w W0∧OwnV W0 w.heap.size 56 [.int .u8 4,.int .i64 0,.string (bstr []),.slice ea 1 ec,.slice ba body.length bc,.slice la els.length lc]:=⟨_,rfl,(Below.refl _ _).alloc (zr _) _,OwnV.new _ _ _⟩;obtain ⟨TX,hTX⟩:∃ X:List UInt8,[105,102,32]++([40]++zab y++[41,32,123,10]++zaM (tabs++[9]) body++tabs++[125])++[32,101,108,115,101,32,123,10]++zaM (tabs++[9]) els++tabs++[125]=X:=⟨_,rfl⟩;rw [hTX];have HTX:=zh hTX;clear hTX;have hsz:B≤W0.heap.size:=Nat.le_trans hB hb0.size;have hE0:=hE.low (hb0.mono hB);have hBo0:=hBo.low (hb0.mono hB);have hEl0:=hEl.low (hb0.mono hB);obtain ⟨TB,hTB⟩:∃ S,bstr tabs=S:=⟨_,rfl⟩;have htl:TB.size≤100:=by rw [← hTB,zaC];omega
 obtain ⟨b,off,op0,n0,nm0,as0,aa0,ac0,rfl,-,-,hy0,c0,c1,c2,c3,hA0⟩:=hE0.at (k:=0) (by simp);cases hy0;obtain ⟨S0,hS0⟩:∃ S,bstr (zab (.mk op0 n0 nm0 as0))=S:=⟨_,rfl⟩;have hln0:S0.size≤1000000000000010:=by rw [← hS0,zaC];have:=zaE h0 (zr _) 1;rw [zaL] at this;omega
 have HA0:Hid (∀ W,Below W0.heap.size W0 W→Calls Tryz.prog 77 #[.agg #[.int .u8 op0,.int .i64 n0,.string (bstr nm0),.slice aa0 as0.length ac0]] W fun e w'=>e=.returned (.string S0)∧Below W.heap.size W w'):=zh (fun W hb=>by rw [← hS0];exact rwrite_shp h0 (zr _) op0 n0 nm0 as0 _ W rfl (Nat.le_trans hsz hb.size) (hA0.low (hb.mono hsz)));simp only [Nat.zero_mul,Nat.add_zero,Nat.one_mul] at c0 c1 c2 c3;obtain ⟨SB,hSB⟩:∃ S,bstr (zaM (tabs++[9]) body)=S:=⟨_,rfl⟩;have hlSB:SB.size≤1000000000000000:=by rw [← hSB,zaC];exact hbl
 have HLB:Hid (∀ W,Below W0.heap.size W0 W→Calls Tryz.prog 74 #[.slice ba body.length bc,.string (TB++{ data:=#[9] })] W fun e w'=>e=.returned (.string SB)∧Below W.heap.size W w'):=zh (fun W hb=>by
  rw [← hSB,show TB++{ data:=#[9] } = bstr (tabs++[9]) by rw [← zax,← hTB];rfl]
  exact hLb _ (tabs++[9]) W (Nat.le_trans hsz hb.size) (hBo0.low (hb.mono hsz)) (by simp;omega) hbl)
 obtain ⟨SE,hSE⟩:∃ S,bstr (zaM (tabs++[9]) els)=S:=⟨_,rfl⟩;have hlSE:SE.size≤1000000000000000:=by rw [← hSE,zaC];exact hel
 have HLE:Hid (∀ W,Below W0.heap.size W0 W→Calls Tryz.prog 74 #[.slice la els.length lc,.string (TB++{ data:=#[9] })] W fun e w'=>e=.returned (.string SE)∧Below W.heap.size W w'):=zh (fun W hb=>by
  rw [← hSE,show TB++{ data:=#[9] } = bstr (tabs++[9]) by rw [← zax,← hTB];rfl]
  exact hLe _ (tabs++[9]) W (Nat.le_trans hsz hb.size) (hEl0.low (hb.mono hsz)) (by simp;omega) hel)
 have hl0:((els.length:Int) == 0)=false:=by rw [beq_eq_false_iff_ne];omega
 have hl1:((els.length:Int) == 1)=false:=by rw [beq_eq_false_iff_ne];omega
 have HT:Hid (bstr TX=(((({ data:=#[105,102,32] }++((((({ data:=#[40] }++S0)++{ data:=#[41,32,123,10] })++SB)++TB)++{ data:=#[125] }))++{ data:=#[32,101,108,115,101,32,123,10] })++SE)++TB)++{ data:=#[125] }):=zh (by
  rw [← HTX.out,← hS0,← hSB,← hTB,← hSE,show ({ data:=#[40] }:ByteArray)=bstr [40] from rfl,show ({ data:=#[41,32,123,10] }:ByteArray)=bstr [41,32,123,10] from rfl,show ({ data:=#[125] }:ByteArray)=bstr [125] from rfl,show ({ data:=#[105,102,32] }:ByteArray)=bstr [105,102,32] from rfl,show ({ data:=#[32,101,108,115,101,32,123,10] }:ByteArray)=bstr [32,101,108,115,101,32,123,10] from rfl]
  simp [zax,zaZ])
 rw [hTB];have HW0:=zh hW0;have Hb0:=zh hb0;have x0:=hO0.cell (i:=0) rfl;have x3:=hO0.cell (i:=3) rfl;have x4:=hO0.cell (i:=4) rfl;have x5:=hO0.cell (i:=5) rfl;clear hW0 hO0 hb0 hE hBo hEl hE0 hBo0 hEl0 ht hS0 hSB hA0 h0 hLb hbl hTB hSE hLe hel;go_enter Tryz.func119,Tryz.ntmps119
 go_upto_region 1 with (fail)
 rw [← HW0.out];go_wp2_with fail
 refine zac (fun w'=>Below W0.heap.size W0 w') (by kernel_rfl) (by kernel_rfl) ((Below.refl _ _).drew) ?_
 repeat
  try simp only [Act.put,zs1,zs3,zs2]
  apply stepsSeq.cons
  ·intro w' hb1;have Hb1':=zh hb1;have x3':=Below.keep hb1 x3;have x4':=Below.keep hb1 x4;have c0':=Below.keep hb1 c0;have c1':=Below.keep hb1 c1;have c2':=Below.keep hb1 c2;have c3':=Below.keep hb1 c3;simp only [Act.put,zs1,zs3,zs2];go_wp2_with ((first | (go_at_call_of 77 (Value.agg #[Value.int IntKind.u8 op0,Value.int IntKind.i64 n0,Value.string (bstr nm0),Value.slice aa0 as0.length ac0]);refine (HA0.out _ Hb1'.out).mono ?_;rintro e2 w2 ⟨rfl,hb2⟩) | (go_at_call 74;refine (HLB.out _ Hb1'.out).mono ?_;rintro e2 w2 ⟨rfl,hb2⟩)))
   first | exact ⟨rfl,Hb1'.out⟩ | exact ⟨rfl,Hb1'.out.trans (hb2.mono Hb1'.out.size)⟩
 try simp only [Act.put,zs1,zs3,zs2]
 refine stepsSeq.nil ?_;intro w' hb1;have HB1:=zh (Hb0.out.trans (hb1.mono Hb0.out.size));have Hc1:=zh hb1;replace x0:=Below.keep hb1 x0;replace x5:=Below.keep hb1 x5;clear hb1 x3 x4 c0 c1 c2 c3;go_wp2_with fail
 go_at_call 74;refine (HLE.out _ Hc1.out).mono ?_;rintro e3 w3 ⟨rfl,hb3⟩;have HB3:=zh (HB1.out.trans (hb3.mono HB1.out.size));clear hb3 x0 x5 ;go_wp2_with fail
 exact bodyPost_ret (v:=.string ((((({ data:=#[105,102,32] }++((((({ data:=#[40] }++S0)++{ data:=#[41,32,123,10] })++SB)++TB)++{ data:=#[125] }))++{ data:=#[32,101,108,115,101,32,123,10] })++SE)++TB)++{ data:=#[125] })) (by simp [results,Tryz.results119,go_sem]) rfl ⟨by rw [HT.out],HB3.out⟩
theorem ro_else1 {w:World} {B d:Nat} {tabs:List UInt8} {y:Ex} {body:List St} (h0:Shp 40 y) (hLb:LnR B d body) (hbl:(zaM (tabs++[9]) body).length≤1000000000000000) {z:St} (hz:opT z≠4) (hLe:LnR B d [z]) (hel:(zaM (tabs++[9]) [z]).length≤1000000000000000)  {ve vb vl:Value} (hE:EsL w B [y] ve) (hBo:SsL w B body vb) (hEl:SsL w B [z] vl) (hB:B≤w.heap.size) (ht:tabs.length+(d+1)≤100) :
  Calls Tryz.prog 119 #[.agg #[.int .u8 4,.int .i64 0,.string (bstr []),ve,vb,vl],.string (bstr tabs)] w (TxtE ([105,102,32]++([40]++zab y++[41,32,123,10]++zaM (tabs++[9]) body++tabs++[125])++[32,101,108,115,101,32,123,10]++zaM (tabs++[9]) [z]++tabs++[125]) w):=by
 obtain ⟨ea,ec,rfl,-,-⟩:=hE.form;obtain ⟨ba,bc,rfl,-,-⟩:=hBo.form;obtain ⟨la,lc,rfl,-,-⟩:=hEl.form;obtain ⟨W0,hW0,hb0,hO0⟩:∃ W0,W0=w.alloc (.cells #[.int .u8 4,.int .i64 0,.string (bstr []),.slice ea 1 ec,.slice ba body.length bc,.slice la 1 lc] 56)∧Below w.heap.size w W0∧OwnV W0 w.heap.size 56 [.int .u8 4,.int .i64 0,.string (bstr []),.slice ea 1 ec,.slice ba body.length bc,.slice la 1 lc]:=⟨_,rfl,(Below.refl _ _).alloc (zr _) _,OwnV.new _ _ _⟩;obtain ⟨TX,hTX⟩:∃ X:List UInt8,[105,102,32]++([40]++zab y++[41,32,123,10]++zaM (tabs++[9]) body++tabs++[125])++[32,101,108,115,101,32,123,10]++zaM (tabs++[9]) [z]++tabs++[125]=X:=⟨_,rfl⟩;rw [hTX];have HTX:=zh hTX;clear hTX;have hsz:B≤W0.heap.size:=Nat.le_trans hB hb0.size;have hE0:=hE.low (hb0.mono hB);have hBo0:=hBo.low (hb0.mono hB);have hEl0:=hEl.low (hb0.mono hB);obtain ⟨TB,hTB⟩:∃ S,bstr tabs=S:=⟨_,rfl⟩;have htl:TB.size≤100:=by rw [← hTB,zaC];omega
 obtain ⟨b,off,op0,n0,nm0,as0,aa0,ac0,rfl,-,-,hy0,c0,c1,c2,c3,hA0⟩:=hE0.at (k:=0) (by simp);cases hy0;obtain ⟨S0,hS0⟩:∃ S,bstr (zab (.mk op0 n0 nm0 as0))=S:=⟨_,rfl⟩;have hln0:S0.size≤1000000000000010:=by rw [← hS0,zaC];have:=zaE h0 (zr _) 1;rw [zaL] at this;omega
 have HA0:Hid (∀ W,Below W0.heap.size W0 W→Calls Tryz.prog 77 #[.agg #[.int .u8 op0,.int .i64 n0,.string (bstr nm0),.slice aa0 as0.length ac0]] W fun e w'=>e=.returned (.string S0)∧Below W.heap.size W w'):=zh (fun W hb=>by rw [← hS0];exact rwrite_shp h0 (zr _) op0 n0 nm0 as0 _ W rfl (Nat.le_trans hsz hb.size) (hA0.low (hb.mono hsz)));simp only [Nat.zero_mul,Nat.add_zero,Nat.one_mul] at c0 c1 c2 c3;obtain ⟨SB,hSB⟩:∃ S,bstr (zaM (tabs++[9]) body)=S:=⟨_,rfl⟩;have hlSB:SB.size≤1000000000000000:=by rw [← hSB,zaC];exact hbl
 have HLB:Hid (∀ W,Below W0.heap.size W0 W→Calls Tryz.prog 74 #[.slice ba body.length bc,.string (TB++{ data:=#[9] })] W fun e w'=>e=.returned (.string SB)∧Below W.heap.size W w'):=zh (fun W hb=>by
  rw [← hSB,show TB++{ data:=#[9] } = bstr (tabs++[9]) by rw [← zax,← hTB];rfl]
  exact hLb _ (tabs++[9]) W (Nat.le_trans hsz hb.size) (hBo0.low (hb.mono hsz)) (by simp;omega) hbl)
 obtain ⟨SE,hSE⟩:∃ S,bstr (zaM (tabs++[9]) [z])=S:=⟨_,rfl⟩;have hlSE:SE.size≤1000000000000000:=by rw [← hSE,zaC];exact hel
 have HLE:Hid (∀ W,Below W0.heap.size W0 W→Calls Tryz.prog 74 #[.slice la 1 lc,.string (TB++{ data:=#[9] })] W fun e w'=>e=.returned (.string SE)∧Below W.heap.size W w'):=zh (fun W hb=>by
  rw [← hSE,show TB++{ data:=#[9] } = bstr (tabs++[9]) by rw [← zax,← hTB];rfl]
  exact hLe _ (tabs++[9]) W (Nat.le_trans hsz hb.size) (hEl0.low (hb.mono hsz)) (by simp;omega) hel)
 obtain ⟨bz,oz,op2,n2,nm2,es2,bd2,el2,ae2,ce2,ab2,cb2,al2,cl2,rfl,-,-,hyz,f0,f1,f2,f3,f4,f5,hzE,hzB,hzL⟩:=hEl0.at (k:=0) (by simp);cases hyz;simp only [Nat.zero_mul,Nat.add_zero] at f0 f1 f2 f3 f4 f5;have hz4:(op2 == 4)=false:=by rw [beq_eq_false_iff_ne];exact hz
 have HT:Hid (bstr TX=(((({ data:=#[105,102,32] }++((((({ data:=#[40] }++S0)++{ data:=#[41,32,123,10] })++SB)++TB)++{ data:=#[125] }))++{ data:=#[32,101,108,115,101,32,123,10] })++SE)++TB)++{ data:=#[125] }):=zh (by
  rw [← HTX.out,← hS0,← hSB,← hTB,← hSE,show ({ data:=#[40] }:ByteArray)=bstr [40] from rfl,show ({ data:=#[41,32,123,10] }:ByteArray)=bstr [41,32,123,10] from rfl,show ({ data:=#[125] }:ByteArray)=bstr [125] from rfl,show ({ data:=#[105,102,32] }:ByteArray)=bstr [105,102,32] from rfl,show ({ data:=#[32,101,108,115,101,32,123,10] }:ByteArray)=bstr [32,101,108,115,101,32,123,10] from rfl]
  simp [zax,zaZ])
 rw [hTB];have HW0:=zh hW0;have Hb0:=zh hb0;have x0:=hO0.cell (i:=0) rfl;have x3:=hO0.cell (i:=3) rfl;have x4:=hO0.cell (i:=4) rfl;have x5:=hO0.cell (i:=5) rfl;clear hW0 hO0 hb0 hE hBo hEl hE0 hBo0 hEl0 ht hS0 hSB hA0 h0 hLb hbl hTB hSE hLe hel hzE hzB hzL;go_enter Tryz.func119,Tryz.ntmps119
 go_upto_region 1 with (fail)
 rw [← HW0.out];go_wp2_with fail
 refine zac (fun w'=>Below W0.heap.size W0 w') (by kernel_rfl) (by kernel_rfl) ((Below.refl _ _).drew) ?_
 repeat
  try simp only [Act.put,zs1,zs3,zs2]
  apply stepsSeq.cons
  ·intro w' hb1;have Hb1':=zh hb1;have x3':=Below.keep hb1 x3;have x4':=Below.keep hb1 x4;have c0':=Below.keep hb1 c0;have c1':=Below.keep hb1 c1;have c2':=Below.keep hb1 c2;have c3':=Below.keep hb1 c3;simp only [Act.put,zs1,zs3,zs2];go_wp2_with ((first | (go_at_call_of 77 (Value.agg #[Value.int IntKind.u8 op0,Value.int IntKind.i64 n0,Value.string (bstr nm0),Value.slice aa0 as0.length ac0]);refine (HA0.out _ Hb1'.out).mono ?_;rintro e2 w2 ⟨rfl,hb2⟩) | (go_at_call 74;refine (HLB.out _ Hb1'.out).mono ?_;rintro e2 w2 ⟨rfl,hb2⟩)))
   first | exact ⟨rfl,Hb1'.out⟩ | exact ⟨rfl,Hb1'.out.trans (hb2.mono Hb1'.out.size)⟩
 try simp only [Act.put,zs1,zs3,zs2]
 refine stepsSeq.nil ?_;intro w' hb1;have HB1:=zh (Hb0.out.trans (hb1.mono Hb0.out.size));have Hc1:=zh hb1;replace x0:=Below.keep hb1 x0;replace x5:=Below.keep hb1 x5;replace f0:=Below.keep hb1 f0;replace f1:=Below.keep hb1 f1;replace f2:=Below.keep hb1 f2;replace f3:=Below.keep hb1 f3;replace f4:=Below.keep hb1 f4;replace f5:=Below.keep hb1 f5;clear hb1 x3 x4 c0 c1 c2 c3;go_wp2_with fail
 go_at_call 74;refine (HLE.out _ Hc1.out).mono ?_;rintro e3 w3 ⟨rfl,hb3⟩;have HB3:=zh (HB1.out.trans (hb3.mono HB1.out.size));clear hb3 x0 x5 f0 f1 f2 f3 f4 f5;go_wp2_with fail
 exact bodyPost_ret (v:=.string ((((({ data:=#[105,102,32] }++((((({ data:=#[40] }++S0)++{ data:=#[41,32,123,10] })++SB)++TB)++{ data:=#[125] }))++{ data:=#[32,101,108,115,101,32,123,10] })++SE)++TB)++{ data:=#[125] })) (by simp [results,Tryz.results119,go_sem]) rfl ⟨by rw [HT.out],HB3.out⟩

theorem lines_le (tabs:List UInt8) (l:List St) (k:Nat):(zaM tabs (l.take k)).length≤(zaM tabs l).length:=by
 have h:zaM tabs l=zaM tabs (l.take k)++zaM tabs (l.drop k):=by rw [← zhf,List.take_append_drop]
 rw [h,List.length_append];omega
theorem rlines_of {B d:Nat} {l:List St} (hOn:∀ s ∈ l,OnR B d s):LnR B d l:=by
 intro v tabs w hB hL ht hz;obtain ⟨a,cap,rfl,hc1,hc2⟩:=hL.form;have htl:(bstr tabs).size≤100:=by rw [zaC];omega
 have HLe:Hid (∀ k,(bstr (zaM tabs (l.take k))).size≤1000000000000000):=zh (fun k=>by rw [zaC];exact Nat.le_trans (lines_le tabs l k) hz)
 have HC:Hid (∀ (k:Nat) (op n:Int) (name:List UInt8) (es:List Ex) (body els:List St) (ve vb vl:Value) (W:World),l[k]? = some (.mk op n name es body els)→Below w.heap.size w W→EsL W B es ve→SsL W B body vb→SsL W B els vl →
   (bstr (oneW tabs (.mk op n name es body els))).size≤1000000000000000∧bstr (zaM tabs (l.take (k+1)))=((bstr (zaM tabs (l.take k))++bstr tabs)++bstr (oneW tabs (.mk op n name es body els)))++{ data:=#[10] } ∧
   Calls Tryz.prog 119 #[.agg #[.int .u8 op,.int .i64 n,.string (bstr name),ve,vb,vl],.string (bstr tabs)] W (TxtE (oneW tabs (.mk op n name es body els)) W)):=zh (fun k op n name es body els ve vb vl W hk hb h1 h2 h3=>by
  have hm:St.mk op n name es body els ∈ l:=List.mem_of_getElem? hk;have ht2:=zkt (tabs:=tabs) hk
  have hlz:(oneW tabs (.mk op n name es body els)).length≤1000000000000000:=by
   have h4:=ht2.2;rw [ht2.1] at h4;simp only [List.length_append,List.length_cons,List.length_nil] at h4;omega
  refine ⟨by rw [zaC];exact hlz,?_,hOn _ hm op n name es body els ve vb vl tabs W rfl (Nat.le_trans hB hb.size) h1 h2 h3 ht hlz⟩;rw [ht2.1,show ({ data:=#[10] }:ByteArray)=bstr [10] from rfl]
  simp [zax])
 have HL:=zh hL;obtain ⟨TB,hTB⟩:∃ S,bstr tabs=S:=⟨_,rfl⟩;rw [hTB] at HC htl ⊢;have hcl:(l.length:Int)≤9223372036854775807:=by omega
 clear hOn hL ht hz hTB;go_enter Tryz.func74,Tryz.ntmps74
 go_wp2_with fail
 go_loopw [5,6,7,8,9,10,11,12,13,14,15,16,17,18,19,20,21,22,23] (fun t5 t6 _ _ _ _ _ _ _ _ _ _ _ _ _ _ _ _ _ wr=>∃ k:Nat,k≤l.length∧t6=.int .i64 k∧t5=.string (bstr (zaM tabs (l.take k)))∧Hid (Below w.heap.size w wr)) (fun _ t6 _ _ _ _ _ _ _ _ _ _ _ _ _ _ _ _ _ _=>l.length - (intOf t6).toNat)
 case atStart=>exact ⟨0,by omega,by first | rfl | go_num,rfl,zh (Below.refl _ _)⟩
 case round =>
  obtain ⟨k,hk,rfl,rfl,Hb⟩:=hrel;by_cases hlt:k < l.length
  ·have hlt':(k:Int) < l.length:=by omega
   have hL2:=HL.out.low (Hb.out.mono hB);obtain ⟨b,off,op,n,name,es,body,els,ae,ce,ab,cb,al,cl,rfl,-,-,hy,c0,c1,c2,c3,c4,c5,hE,hBo,hEl⟩:=hL2.at hlt;obtain ⟨hz1,hz2,hC⟩:=HC.out k op n name es body els _ _ _ wr hy Hb.out hE hBo hEl;have hz3:=HLe.out k;unfold TxtE at hC
   generalize bstr (oneW tabs (.mk op n name es body els))=SO at *
   generalize bstr (zaM tabs (l.take k))=S at *
   have Hz2:=zh hz2;have HCl:=zh hC;clear hC hz2 hE hBo hEl hL2 hy HC HL HLe;go_wp2_with fail
   go_at_call 119;refine HCl.out.mono ?_;rintro e1 w1 ⟨rfl,hb1⟩;have Hb1:=zh (Hb.out.trans (hb1.mono Hb.out.size));clear hb1 c0 c1 c2 c3 c4 c5;go_wp2_with fail
   go_roundw
   case rel=>exact ⟨k+1,by omega,by go_num,by rw [Hz2.out],Hb1⟩
   case measure=>simp [intOf];omega
  ·obtain rfl:k=l.length:=by omega
   rw [List.take_length];obtain ⟨S,hS⟩:∃ S,bstr (zaM tabs l)=S:=⟨_,rfl⟩;rw [hS];have HS:=zh hS;clear hS;clear HC HL HLe;go_wp2_with fail
   exact bodyPost_ret (v:=.string S) (by simp [results,Tryz.results74,go_sem]) rfl ⟨by rw [HS.out],Hb.out⟩
theorem wordS_len' {s:List UInt8} (h:zaP s=true):s.length≤24:=zcS (zbG h).1
theorem ron_all (B:Nat):∀ (d:Nat) (s:St),ShpT d s→OnR B d s:=by
 intro d
 induction d with
 | zero=>intro s h;cases h
 | succ d ih =>
  intro s h;have hL:∀ l:List St,(∀ s ∈ l,ShpT d s)→LnR B d l:=fun l hl=>rlines_of fun s hs=>ih s (hl s hs)
  cases h with
  | letS h he =>
   intro op' n' name' es' body' els' ve vb vl tabs w e hB h1 h2 h3 ht hz;cases e;rw [zju]
   exact ro_let (wordS_len' h) he h1 h2 h3 hB ht
  | setS h he =>
   intro op' n' name' es' body' els' ve vb vl tabs w e hB h1 h2 h3 ht hz;cases e;rw [zjv]
   exact ro_set (wordS_len' h) he h1 h2 h3 hB ht
  | @putS _ n e1 e2 h0 h1' he he' =>
   intro op' n' name' es' body' els' ve vb vl tabs w e hB h1 h2 h3 ht hz;cases e;obtain ⟨N,rfl⟩:∃ N:Nat,n=(N:Int)+1:=⟨(n - 1).toNat,by omega⟩;rw [zjw,show ((N:Int)+1 - 1).toNat=N from by omega]
   exact ro_put (by omega) he he' h1 h2 h3 hB ht
  | stopS h =>
   intro op' n' name' es' body' els' ve vb vl tabs w e hB h1 h2 h3 ht hz;cases e;rcases h with rfl | rfl
   ·rw [zhZ];exact ro_stop h1 h2 h3 hB ht
   ·rw [zh0];exact ro_fail h1 h2 h3 hB ht
  | @whileS _ x body he hb =>
   intro op' n' name' es' body' els' ve vb vl tabs w e hB h1 h2 h3 ht hz;cases e;rw [zgX] at hz ⊢;unfold zaZ at hz ⊢
   exact ro_while he (hL _ hb) (by simp only [List.length_append,List.length_cons,List.length_nil] at hz;omega) h1 h2 h3 hB ht
  | @ifS _ x body els he hb hl =>
   intro op' n' name' es' body' els' ve vb vl tabs w e hB h1 h2 h3 ht hz;cases e
   cases els with
   | nil =>
    rw [zjx] at hz ⊢;unfold zaZ at hz ⊢
    exact ro_none he (hL _ hb) (by simp only [List.length_append,List.length_cons,List.length_nil] at hz;omega) h1 h2 h3 hB ht
   | cons z r =>
    cases r with
    | nil =>
     by_cases h4:opT z=4
     ·rw [zjy _ _ _ _ h4] at hz ⊢;unfold zaZ at hz ⊢;have hlen:=hz;simp only [List.length_append,List.length_cons,List.length_nil] at hlen;exact ro_elif he (hL _ hb) (by omega) h4 (ih z (hl z (by simp))) (by omega) h1 h2 h3 hB ht
     ·rw [zgG _ _ _ _ _ (by cases z;show (_ == _)=false;rw [beq_eq_false_iff_ne];exact h4)] at hz ⊢;unfold zaZ at hz ⊢;have hlen:=hz;simp only [List.length_append,List.length_cons,List.length_nil] at hlen
      exact ro_else1 he (hL _ hb) (by omega) h4 (hL _ hl) (by omega) h1 h2 h3 hB ht
    | cons z2 r2 =>
     rw [znm _ _ _ (by simp)] at hz ⊢;unfold zaZ at hz ⊢;have hlen:=hz;simp only [List.length_append,List.length_cons,List.length_nil] at hlen;exact ro_else2 he (hL _ hb) (by omega) (by simp) (hL _ hl) (by omega) h1 h2 h3 hB ht
theorem refText_any {w:World} {B:Nat} {l:List St} {v:Value} (hok:okSs l) (hL:SsL w B l v) (hB:B≤w.heap.size) (hsz:szSs l≤100000000000) :
  Calls Tryz.prog 43 #[v] w (zks (zhE l) w):=by
 have HPr:=zh (printable_any l v w B hok hL hB)
 have HLn:Hid (zaJ 40 l=true→∀ W,Below w.heap.size w W→Calls Tryz.prog 74 #[v,.string (bstr [])] W (TxtE (zaM [] l) W)):=zh (fun hr W hb=>by
  have hsh:=zk1 40 l hr hok;have hln:=zmE hsh
  exact rlines_of (d:=40) (fun s hs=>ron_all B 40 s (hsh s hs)) v [] W (Nat.le_trans hB hb.size) (hL.low (hb.mono hB)) (by simp) (by omega))
 have hT:zhE l=if zaJ 40 l=true then zdN (zaM [] l) else ([],2):=rfl
 obtain ⟨va,vc,rfl,hvc1,hvc2⟩:=hL.form;clear hok hL hsz
 generalize zaM [] l=T at *
 generalize zhE l=R at *
 generalize zaJ 40 l=q at *
 cases q with
 | false =>
  rw [if_neg (by decide)] at hT;have HT:=zh hT;clear hT HLn;go_enter Tryz.func43,Tryz.ntmps43
  go_wp2_with fail
  go_at_call 44;refine HPr.out.mono ?_;rintro e1 w1 ⟨rfl,hb1⟩;have Hb1:=zh hb1;clear hb1;go_wp2_with fail
  exact bodyPost_ret (v:=.tuple #[.string { data:=#[] },.int .i64 2]) (by simp [results,Tryz.results43,go_sem]) rfl ⟨by rw [HT.out];rfl,Hb1.out⟩
 | true =>
  rw [if_pos rfl] at hT;have HC:=zh (HLn.out rfl);have hsw:zdN T=if 16384 < T.length then ([],3) else (T,0):=rfl
  rw [hsw] at hT;obtain ⟨S,hS⟩:∃ S,bstr T=S:=⟨_,rfl⟩;have hl:S.size=T.length:=by rw [← hS,zaC]
  unfold TxtE at HC;rw [hS] at HC;have HS:=zh hS;clear HLn hsw;by_cases hlen:16384 < T.length
  ·rw [if_pos hlen] at hT;have HT:=zh hT;have hlen':(S.size:Int) > 16384:=by omega
   clear hT hS hl hlen;go_enter Tryz.func43,Tryz.ntmps43
   go_wp2_with fail
   go_at_call 44;refine HPr.out.mono ?_;rintro e1 w1 ⟨rfl,hb1⟩;have Hb1:=zh hb1;clear hb1;go_wp2_with fail
   go_at_call 74;refine (HC.out w1 Hb1.out).mono ?_;rintro e2 w2 ⟨rfl,hb2⟩;have Hb2:=zh (Hb1.out.trans (hb2.mono Hb1.out.size));clear hb2;go_wp2_with fail
   exact bodyPost_ret (v:=.tuple #[.string { data:=#[] },.int .i64 3]) (by simp [results,Tryz.results43,go_sem]) rfl ⟨by rw [HT.out];rfl,Hb2.out⟩
  ·rw [if_neg hlen] at hT;have HT:=zh hT;have hlen':¬ (S.size:Int) > 16384:=by omega
   clear hT hS hl hlen;go_enter Tryz.func43,Tryz.ntmps43
   go_wp2_with fail
   go_at_call 44;refine HPr.out.mono ?_;rintro e1 w1 ⟨rfl,hb1⟩;have Hb1:=zh hb1;clear hb1;go_wp2_with fail
   go_at_call 74;refine (HC.out w1 Hb1.out).mono ?_;rintro e2 w2 ⟨rfl,hb2⟩;have Hb2:=zh (Hb1.out.trans (hb2.mono Hb1.out.size));clear hb2;go_wp2_with fail
   exact bodyPost_ret (v:=.tuple #[.string S,.int .i64 0]) (by simp [results,Tryz.results43,go_sem]) rfl ⟨by rw [HT.out,← HS.out],Hb2.out⟩

theorem writes_any {l:List St} {v:Value} {w:World} (hok:okSs l) (hL:SsL w w.heap.size l v) (hs:szSs l≤400) (hG:Glob w) :
  Calls Tryz.prog 18 #[v] w (YesE w):=by
 have hgs:=hG.size;obtain ⟨a,cap,rfl,hc1,hc2⟩:=hL.form;have HCo:Hid (Calls Tryz.prog 42 #[.slice a l.length cap] w _):=zh (copySs_any (szSs l+1) l _ w w.heap.size (by omega) (by omega) hL (zr _));have H1:Hid (∀ (W:World) (v:Value),Below w.heap.size w W→SsL W W.heap.size l v→Calls Tryz.prog 29 #[v] W (zks (zhE l) W)):=zh (fun W v hb h=>zmF (hG.below hb hgs) hok h (zr _) (by omega));have H2:Hid (∀ W:World,Below w.heap.size w W→Calls Tryz.prog 43 #[.slice a l.length cap] W (zks (zhE l) W)):=zh (fun W hb=>refText_any hok (hL.low hb) hb.size (by omega));have H3:Hid (∀ (W:World) (v:Value),SsL W W.heap.size l v→Calls Tryz.prog 30 #[v] W (zbe (zaJ 40 l) W)):=zh (fun W v h=>zem l v W W.heap.size hok h (zr _));have H4:Hid (∀ W:World,Below w.heap.size w W→Calls Tryz.prog 44 #[.slice a l.length cap] W (zbe (zaJ 40 l) W)):=zh (fun W hb=>printable_any l _ W w.heap.size hok (hL.low hb) hb.size);have H5:Hid (∀ (W:World) (v:Value),Below w.heap.size w W→SsL W W.heap.size l v→Calls Tryz.prog 32 #[v,.slice a l.length cap] W (YesE W)):=zh (fun W v hb h=>zjX (szSs l+1) l _ _ W W.heap.size (by omega) h (SsL.mono (hL.low hb) hb.size) (zr _));unfold zks at H1 H2;unfold zbe at H3 H4
 generalize (zhE l).2=C at *
 generalize bstr (zhE l).1=S at *
 generalize zaJ 40 l=q at *
 clear hG hok hL hs;go_enter Tryz.func18,Tryz.ntmps18
 go_wp2_with fail
 go_at_call 42;refine HCo.out.mono ?_;rintro e1 w1 ⟨⟨r,cs,rfl,hR,hX⟩,hb1⟩;have hI:SsL w1 w1.heap.size l r:=zeM ⟨cs,hR,hX.weak1⟩;obtain ⟨ra,rc,rfl,-,-⟩:=hI.form;have HI:Hid (∀ W,Below w1.heap.size w1 W→SsL W W.heap.size l (.slice ra l.length rc)):=zh (fun W hb=>SsL.mono (hI.low hb) hb.size);have Hb1:=zh hb1;have HC1:=zh (H1.out w1 _ hb1 hI);clear hb1 hI hR hX HCo H1;go_wp2_with fail
 go_at_call 29;refine HC1.out.mono ?_;rintro e2 w2 ⟨rfl,hb2⟩;have Hc2:=zh hb2;have Hb2:=zh (Hb1.out.trans (hb2.mono Hb1.out.size));clear hb2 HC1;go_wp2_with fail
 go_at_call 43;refine (H2.out w2 Hb2.out).mono ?_;rintro e3 w3 ⟨rfl,hb3⟩;have Hc3:=zh (Hc2.out.trans (hb3.mono Hc2.out.size));have Hb3:=zh (Hb2.out.trans (hb3.mono Hb2.out.size));have HC3:=zh (H3.out w3 _ (HI.out w3 Hc3.out));clear hb3 H2 H3;go_wp2_with fail
 go_at_call 30;refine HC3.out.mono ?_;rintro e4 w4 ⟨rfl,hb4⟩;have Hc4:=zh (Hc3.out.trans (hb4.mono Hc3.out.size));have Hb4:=zh (Hb3.out.trans (hb4.mono Hb3.out.size));clear hb4 HC3;go_wp2_with fail
 go_at_call 44;refine (H4.out w4 Hb4.out).mono ?_;rintro e5 w5 ⟨rfl,hb5⟩;have Hc5:=zh (Hc4.out.trans (hb5.mono Hc4.out.size));have Hb5:=zh (Hb4.out.trans (hb5.mono Hb4.out.size));have HC5:=zh (H5.out w5 _ Hb5.out (HI.out w5 Hc5.out));clear hb5 H4 H5;go_wp2_with fail
 go_at_call 32;refine HC5.out.mono ?_;rintro e6 w6 ⟨rfl,hb6⟩;have Hb6:=zh (Hb5.out.trans (hb6.mono Hb5.out.size));clear hb6;go_wp2_with fail
 exact bodyPost_ret (v:=.bool true) (by simp [results,Tryz.results18,go_sem]) rfl ⟨rfl,Hb6.out⟩
theorem parseWrites_any (l:List St) (v:Value) (w:World) (hok:okSs l) (hL:SsL w w.heap.size l v) (hG:Glob w) :
  Calls Tryz.prog 5 #[v] w (YesE w):=by
 have hgs:=hG.size;obtain ⟨a,cap,rfl,hc1,hc2⟩:=hL.form;have HSz:Hid (Calls Tryz.prog 17 #[.slice a l.length cap,.int .i64 400] w _):=zh (size_any (szSs l+1) l _ w w.heap.size 400 (by omega) hok hL (zr _) (by omega) (by omega));have HWr:Hid (szSs l≤400→∀ W,Below w.heap.size w W→Calls Tryz.prog 18 #[.slice a l.length cap] W (YesE W)):=zh (fun hs W hb=>writes_any hok (SsL.mono (hL.low hb) hb.size) hs (hG.below hb hgs));have HA:Hid (∀ W,Below w.heap.size w W→Calls Tryz.prog 15 #[] W (YesE W)):=zh (fun W hb=>zfY (hG.below hb hgs));clear hG hok hL;go_enter Tryz.func5,Tryz.ntmps5
 go_wp2_with fail
 go_at_call 17;refine HSz.out.mono ?_;rintro e1 w1 ⟨⟨r,rfl,-,hr1,-⟩,hb1⟩;have Hb1:=zh hb1;clear hb1;by_cases hr:(r:Int) > 400
 ·clear hr1;go_wp2_with fail
  go_at_call 15;refine (HA.out _ Hb1.out).mono ?_;rintro e2 w2 ⟨rfl,hb2⟩;have Hb2:=zh (Hb1.out.trans (hb2.mono Hb1.out.size));clear hb2;go_wp2_with fail
  exact bodyPost_ret (v:=.bool true) (by simp [results,Tryz.results5,go_sem]) rfl ⟨rfl,Hb2.out⟩
 ·have hsz:szSs l≤400:=by have:=hr1 (by omega);omega
  have HW1:=zh (HWr.out hsz w1 Hb1.out);clear hr1 hsz HWr;go_wp2_with fail
  go_at_call 18;refine HW1.out.mono ?_;rintro e2 w2 ⟨rfl,hb2⟩;have Hb2:=zh (Hb1.out.trans (hb2.mono Hb1.out.size));clear hb2;go_wp2_with fail
  go_at_call 15;refine (HA.out _ Hb2.out).mono ?_;rintro e3 w3 ⟨rfl,hb3⟩;have Hb3:=zh (Hb2.out.trans (hb3.mono Hb2.out.size));clear hb3;go_wp2_with fail
  exact bodyPost_ret (v:=.bool true) (by simp [results,Tryz.results5,go_sem]) rfl ⟨rfl,Hb3.out⟩
end Go.Proofs.YtoaojdobjinhfaaGreatDoor

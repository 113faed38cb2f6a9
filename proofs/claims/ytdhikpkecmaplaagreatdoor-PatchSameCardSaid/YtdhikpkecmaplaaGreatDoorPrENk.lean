/- The program's printer: the strings.Builder, WriteString; the closure of lines. -/
import Derived.Test.YtdhikpkecmaplaaGreatDoorPrANk
import Derived.Test.YtdhikpkecmaplaaGreatDoorQRightMk
import Derived.Shelf.Strings.BuilderK
set_option linter.unusedSimpArgs false
set_option linter.unusedVariables false
set_option maxRecDepth 100000
set_option maxHeartbeats 8000000
namespace Go.Proofs.YtdhikpkecmaplaaGreatDoor
open Go.RowKit

def Bd (w : World) (B b : Nat) (bs : List UInt8) : Prop := Lib.IsBuilderF 129 5 B b (Lib.byteCells bs) w
def Kp (B b : Nat) (w w' : World) : Prop := Below B w w' /\ Lib.OthersKept 5 (some b) w w'
theorem Kp.refl (B b:Nat) (w:World):Kp B b w w:=⟨yR _ _,Lib.OthersKept.refl _ _ _⟩
theorem Kp.trans {B b:Nat} {u v w:World} (h:Kp B b u v) (k:Kp B b v w):Kp B b u w:=⟨h.1.trans k.1,h.2.trans k.2⟩
theorem Kp.of_below {B b:Nat} {w w':World} (h:Below w.heap.size w w') (hB:B<=w.heap.size):Kp B b w w':=
 ⟨h.mono hB,fun k o hk _ _=>by
  have hlt:k < w.heap.size:=by
   rcases Nat.lt_or_ge k w.heap.size with h' | h'
   ·exact h'
   ·rw [Array.getElem?_eq_none h'] at hk;cases hk
  rw [h.block k hlt];exact hk⟩
theorem Kp.own {B b:Nat} {w w':World} (h:Kp B b w w') {g:Nat} {e:TypeId} {vs:List Value} (ho:OwnV w g e vs) (hg:g≠b) (he:e≠5):OwnV w' g e vs:=
 h.2 g _ ho (fun e'=>hg (by cases e';rfl)) (fun c fz e'=>he (by cases e';rfl))
theorem Kp.size {B b:Nat} {w w':World} (h:Kp B b w w'):w.heap.size<=w'.heap.size:=h.1.size
theorem Bd.below {w w':World} {B b:Nat} {bs:List UInt8} (h:Bd w B b bs) (hb:Below w.heap.size w w'):Bd w' B b bs:=by
 have key:∀ p,Lib.BuilderAtF 129 5 B b p (Lib.byteCells bs) w->Lib.BuilderAtF 129 5 B b p (Lib.byteCells bs) w':=by
  intro p hp;have hlt:=hp.lt;obtain ⟨hB,v,hbk,hown,hne⟩:=hp;refine ⟨hB,v,by rw [hb.block b hlt];exact hbk,?_,hne⟩
  exact hown.kept (row:=none) ⟨hb.os,hb.tape,hb.output,hb.size,fun k hk _=>hb.block k hk⟩ (by
   rcases h0:v.ownBlock with _ | g
   ·exact .inl rfl
   ·exact .inr (by simp))
 exact h.elim (fun x=>.inl (key _ x)) (fun x=>.inr (key _ x))
theorem Bd.lt {w:World} {B b:Nat} {bs:List UInt8} (h:Bd w B b bs):b < w.heap.size:=h.elim (fun x=>x.lt) (fun x=>x.lt)
theorem Bd.ge {w:World} {B b:Nat} {bs:List UInt8} (h:Bd w B b bs):B<=b:=h.elim (fun x=>x.1) (fun x=>x.1)
theorem zlH (a b:List UInt8):Lib.byteCells a++Lib.strCells (bstr b)=Lib.byteCells (a++b):=by
 unfold Lib.byteCells Lib.strCells bstr;rw [List.map_append]
def WsE (T : List UInt8) (B b : Nat) (bs : List UInt8) (w : World) (e : Ending) (w' : World) : Prop := e = .returned (.tuple #[.int .i64 T.length, .nilIface]) /\ Bd w' B b (bs ++ T) /\ Kp B b w w'
def bldR : Go.Shelf.Ren := ⟨fun | 166 => 109 | 240 => 139 | 276 => 181 | n => n, fun | 37 => 127 | 70 => 126 | 72 => 129 | 75 => 188 | 80 => 132 | 164 => 269 | n => n, fun | n => n⟩
theorem bldL:Go.Proofs.Lays.n166 Tryz.prog bldR:={
 mixed:=by kernel_rfl
 f166:=Tryz.func109.trans (congrArg some (by kernel_rfl))
 f240:=Tryz.func139.trans (congrArg some (by kernel_rfl))
 f276:=Tryz.func181.trans (congrArg some (by kernel_rfl))
 t0:=Tryz.underlying0
 a0:=Tryz.isAgg0
 z0:=Tryz.sizeOf0
 v0:=Tryz.zeroValue0
 t3:=Tryz.underlying3
 a3:=Tryz.isAgg3
 z3:=Tryz.sizeOf3
 v3:=Tryz.zeroValue3
 t4:=Tryz.underlying4
 a4:=Tryz.isAgg4
 z4:=Tryz.sizeOf4
 v4:=Tryz.zeroValue4
 t9:=Tryz.underlying9
 a9:=Tryz.isAgg9
 z9:=Tryz.sizeOf9
 v9:=Tryz.zeroValue9
 t20:=Tryz.underlying20
 a20:=Tryz.isAgg20
 z20:=Tryz.sizeOf20
 v20:=Tryz.zeroValue20
 t37:=Tryz.underlying127
 a37:=Tryz.isAgg127
 z37:=Tryz.sizeOf127
 v37:=Tryz.zeroValue127
 t70:=Tryz.underlying126
 a70:=Tryz.isAgg126
 z70:=Tryz.sizeOf126
 v70:=Tryz.zeroValue126
 t72:=Tryz.underlying129
 a72:=Tryz.isAgg129
 z72:=Tryz.sizeOf129
 v72:=Tryz.zeroValue129
 t75:=Tryz.underlying188
 a75:=Tryz.isAgg188
 z75:=Tryz.sizeOf188
 v75:=Tryz.zeroValue188
 t164:=Tryz.underlying269
 a164:=Tryz.isAgg269
 z164:=Tryz.sizeOf269
 v164:=Tryz.zeroValue269 }
theorem zaT {w:World} {B b:Nat} {bs:List UInt8} (T:List UInt8) (h:Bd w B b bs) (hB:B<=w.heap.size) (hl:bs.length+T.length<=140737488355328) :
  Calls Tryz.prog 109 #[.pointer (some ⟨b,0,none⟩),.string (bstr T)] w (WsE T B b bs w):=by
 have hlen:(Lib.byteCells bs).length=bs.length:=by unfold Lib.byteCells;rw [List.length_map]
 have H:=Any.Builder_WriteString_k (L:=bldL) (X:={ sizeBuilder:=by kernel_rfl,liesBuilder:=by kernel_rfl,t5:=Tryz.underlying5,a5:=Tryz.isAgg5,z5:=Tryz.sizeOf5,v5:=Tryz.zeroValue5,infoByte:=by kernel_rfl,cellsByte:=by kernel_rfl,sizeByte:=by kernel_rfl,neB5:=by decide }) B b (Lib.byteCells bs) (bstr T) w h (by rw [hlen,zaC];exact hl) hB;refine H.mono ?_;rintro e w' ⟨rfl,hA,hb,hk⟩;refine ⟨by rw [zaC],.inr ?_,hb,hk⟩;rw [<- zlH];exact hA
theorem zc4 {w0 w:World} {gx B i:Nat} {v0 v1 v2 v4 v5:Value} {es:List Ex} {a:Option Addr} {cap:Nat} {y:Ex} (hG:Glob w0) (hgB:glB<=B) (hg:OwnV w gx 184 [v0,v1,v2,.slice a es.length cap,v4,v5]) (hL:EsL w B es (.slice a es.length cap)) (hb0:Below B w0 w) (hB:B<=w.heap.size) (hi:es[i]? = some y) (hs:Shp 40 y) :
  Calls Tryz.prog 110 #[.int .i64 i,.pointer (some ⟨gx,0,none⟩)] w (TxtE (zab y) w):=by
 have hil:i < es.length:=by
  rcases Nat.lt_or_ge i es.length with h | h
  ·exact h
  ·rw [List.getElem?_eq_none h] at hi;cases hi
 obtain ⟨b,off,op,n,name,args',aa,ac,rfl,hb,hbw,hy,c0,c1,c2,c3,hL'⟩:=hL.at hil;rw [hi] at hy;cases hy;have hC:=zcm hG hgB hs (by omega) op n name args' _ w 0 rfl hb0 hB hL' (by omega);rw [zaL] at hC;have HC:=zh hC;obtain ⟨T,hT⟩:∃ T,zab (.mk op n name args')=T:=⟨_,rfl⟩;rw [hT] at HC ⊢;have x3:=hg.cell (i:=3) rfl;obtain ⟨_,_,hcap1,hcap2,hcap3⟩:=hL.form;cases hcap1;have hi1:(i:Int) < (es.length:Int):=by omega
 have hi0:(0:Int)<=(i:Int):=by omega
 clear hT hg hL hi hb0 hL' hC hG;go_enter Tryz.func110,Tryz.ntmps110
 go_wp2_with fail
 go_at_call 111;refine HC.out.mono ?_;rintro e1 w1 ⟨rfl,hb1⟩;have Hb1:=zh hb1;clear hb1 c0 c1 c2 c3 x3;go_wp2_with fail
 exact yE (v:=.string (bstr T)) (by simp [results,Tryz.results110,go_sem]) rfl ⟨rfl,Hb1.out⟩
theorem zhy (args:Array Value) (W:World):(callFunc 110 args).run Tryz.prog W=.ok (.enter 110 args) W:=(enters_of (P:=Tryz.prog) Tryz.func110 (by kernel_rfl) rfl) args W
def LnE (T : List UInt8) (B b : Nat) (bs : List UInt8) (w : World) (e : Ending) (w' : World) : Prop := e = .returned (.tuple #[]) /\ Bd w' B b (bs ++ T) /\ Kp B b w w'
def LnC (w0 : World) (B d : Nat) (l : List St) : Prop := ∀ (v : Value) (w : World) (b : Nat) (bs tabs : List UInt8), Below B w0 w -> B <= w.heap.size -> SsL w B l v -> Bd w B b bs -> tabs.length + d <= 100 -> bs.length + (zaM tabs l).length <= 100000000000000 ->
  Calls Tryz.prog 70 #[.pointer (some ⟨b, 0, none⟩), v, .string (bstr tabs)] w (LnE (zaM tabs l) B b bs w)
def BrC (w0 : World) (B d : Nat) (s : St) : Prop := ∀ (op n : Int) (name : List UInt8) (es : List Ex) (body els : List St) (ve vb vl : Value) (w : World) (b : Nat) (bs tabs : List UInt8), s = .mk op n name es body els -> Below B w0 w -> B <= w.heap.size -> EsL w B es ve -> SsL w B body vb -> SsL w B els vl -> Bd w B b bs -> tabs.length + d <= 100 -> bs.length + (oneW tabs s).length + 1 <= 100000000000000 ->
  Calls Tryz.prog 113 #[.pointer (some ⟨b, 0, none⟩), .agg #[.int .u8 op, .int .i64 n, .string (bstr name), ve, vb, vl], .string (bstr tabs)] w (LnE (oneW tabs s ++ [10]) B b bs w)
theorem zdd {w w':World} {B:Nat} {p:Addr} {v:Value} (hb:Below B w w') (hp:p.block < B) (hc:w.cell? p=some v):w'.cell? p=some v:=by
 rw [World.cell?_of_block (w:=w) (hb.block p.block hp)];exact hc
theorem znm (tabs:List UInt8) (e:Ex) (body:List St) {els:List St} (h:2<=els.length):oneW tabs (.mk 4 0 [] [e] body els)=[105,102,32]++zaZ tabs e body++[32,101,108,115,101,32,123,10]++zaM (tabs++[9]) els++tabs++[125]:=by
 match els,h with
 | x :: y :: r,_=>exact zgG tabs e body x (y :: r) (by cases x;rfl)
theorem zhz {w0 w:World} {B b d:Nat} {bs tabs:List UInt8} {e:Ex} {body els:List St} {ve vb vl:Value} (hG:Glob w0) (hgB:glB<=B) (he:Shp 40 e) (hb0:Below B w0 w) (hB:B<=w.heap.size) (hE:EsL w B [e] ve) (hBo:SsL w B body vb) (hEl:SsL w B els vl) (hbd:Bd w B b bs) (htb:tabs.length+(d+1)<=100) (hlen:bs.length+(oneW tabs (.mk 4 0 [] [e] body els)).length+1<=100000000000000) (hLB:LnC w0 B d body) (hn:els=[]) :
  Calls Tryz.prog 113 #[.pointer (some ⟨b,0,none⟩),.agg #[.int .u8 4,.int .i64 0,.string { data:=#[] },ve,vb,vl],.string (bstr tabs)] w (LnE (oneW tabs (.mk 4 0 [] [e] body els)++[10]) B b bs w):=by
 subst hn;have hone:=zjx tabs e body;unfold zaZ at hone;rw [hone] at hlen ⊢;obtain ⟨ae,ce,rfl,hce1,hce2⟩:=hE.form;obtain ⟨ab,cb,rfl,hcb1,hcb2⟩:=hBo.form;obtain ⟨al,cl,rfl,hcl1,hcl2⟩:=hEl.form;obtain ⟨eb,eoff,op,n,name,args,aa,ac,rfl,heb,hebw,hy,c0,c1,c2,c3,hL'⟩:=hE.at (k:=0) (by simp);cases hy;simp only [Nat.zero_mul,Nat.add_zero] at c0 c1 c2 c3;have hWr:=zcm hG hgB he (by omega);have hes:∀ k,(zak (.mk op n name args) k).length<=1000000000000000:=zaE he (by omega);have hE1:=hes 1;rw [zaL] at hE1;obtain ⟨W0,hW0,hb1,hO0⟩:∃ W0,W0=w.alloc (.cells #[.int .u8 4,.int .i64 0,.string { data:=#[] },.slice (some ⟨eb,eoff,none⟩) 1 ce,.slice ab body.length cb,.slice al 0 cl] 184)/\Below w.heap.size w W0/\OwnV W0 w.heap.size 184 [.int .u8 4,.int .i64 0,.string { data:=#[] },.slice (some ⟨eb,eoff,none⟩) 1 ce,.slice ab body.length cb,.slice al 0 cl]:=⟨_,rfl,(yR _ _).alloc (zr _) _,OwnV.new _ _ _⟩;have hC:=hWr op n name args _ W0 0 rfl (hb0.trans (hb1.mono hB)) (yT hB hb1.size) (hL'.low (hb1.mono hB)) (by omega);rw [zaL] at hC;obtain ⟨E,hEq⟩:∃ T,zab (.mk op n name args)=T:=⟨_,rfl⟩;rw [hEq] at hC hE1 hlen ⊢;have HC:=zh hC;have hEz:(bstr E).size<=1000000000000000:=by rw [zaC];exact hE1
 have htz:(bstr tabs).size<=100:=by rw [zaC];omega
 have HLB:=zh hLB;have d0:=Below.keep hb1 c0;have d1:=Below.keep hb1 c1;have d2:=Below.keep hb1 c2;have d3:=Below.keep hb1 c3;have x3:=hO0.cell (i:=3) rfl;have HW0:=zh hW0;have HO0:=zh hO0;have HK0:=zh (Kp.of_below (b:=b) hb1 hB);have HD0:=zh (hbd.below hb1);have Hb0:=zh (hb0.trans (hb1.mono hB));have HBo:=zh (hBo.low (hb1.mono hB));have HEl:=zh (hEl.low (hb1.mono hB));have hs0:=hb1.size;have hbl:=hbd.lt;have hge:=hbd.ge;have Hlen:=zh hlen;have htb2:tabs.length+d<=99:=by omega
 have htb3:(tabs++[9]).length+d<=100:=by rw [yA];show tabs.length+1+d<=100;omega
 clear hW0 hO0 hb1 hE hBo hEl hbd hb0 hL' hC hWr he c0 c1 c2 c3 hlen hLB hes hEq hone hG hE1 htb;go_enter Tryz.func113,Tryz.ntmps113
 go_upto_region 1 with (fail)
 rw [<- HW0.out];go_wp2_with fail
 go_at_call 111;refine HC.out.mono ?_;rintro e1 w1 ⟨rfl,hb2⟩;have hs1:=hb2.size;have HK1:=zh (HK0.out.trans (Kp.of_below (b:=b) hb2 (by omega)));have HD1:=zh (HD0.out.below hb2);have HO1:=zh (HO0.out.below hb2 (zr _));have Hb1:=zh (Hb0.out.trans (hb2.mono (by omega)));have HBo1:=zh (HBo.out.low (hb2.mono (by omega)));have HEl1:=zh (HEl.out.low (hb2.mono (by omega)));have hP1:bstr ([105,102,32,40]++E++[41,32,123,10])=(({ data:=#[105,102,32,40] }:ByteArray)++bstr E)++{ data:=#[41,32,123,10] }:=by rw [<- zax,<- zax];rfl
 have hws:=zaT ([105,102,32,40]++E++[41,32,123,10]) HD1.out (by omega) (by have:=Hlen.out;simp only [zaZ,yA,yB,yL] at this ⊢;omega);rw [hP1] at hws;have HWs:=zh hws;clear hb2 HC HK0 HD0 HO0 Hb0 HBo HEl d0 d1 d2 d3 x3 hws hP1
 generalize bstr E=SE at *
 go_wp2_with fail
 go_at_call 109;refine HWs.out.mono ?_;rintro e2 w2 ⟨rfl,hD2,hk2⟩;have hs2:=hk2.size;have HK2:=zh (HK1.out.trans hk2);have HO2:=zh (hk2.own HO1.out (by omega) (by decide));have Hb2:=zh (Hb1.out.trans hk2.1);have HBo2:=zh (HBo1.out.low hk2.1);have HEl2:=zh (HEl1.out.low hk2.1);have hlb:=HLB.out _ w2 b _ (tabs++[9]) Hb2.out (by omega) HBo2.out hD2 htb3 (by have:=Hlen.out;simp only [zaZ,yA,yB,yL] at this ⊢;omega);rw [show bstr (tabs++[9])=bstr tabs++{ data:=#[9] } from (zax tabs [9]).symm] at hlb;have HLb:=zh hlb;have x4:=HO2.out.cell (i:=4) rfl;clear hD2 hk2 hlb HWs HK1 HD1 HO1 Hb1 HBo1 HEl1 HLB;go_wp2_with fail
 go_at_call 70;refine HLb.out.mono ?_;rintro e3 w3 ⟨rfl,hD3,hk3⟩;have hs3:=hk3.size;have HK3:=zh (HK2.out.trans hk3);have HO3:=zh (hk3.own HO2.out (by omega) (by decide));have Hb3:=zh (Hb2.out.trans hk3.1);have HEl3:=zh (HEl2.out.low hk3.1);have hws:=zaT (tabs++[125]) hD3 (by omega) (by have:=Hlen.out;simp only [zaZ,yA,yB,yL] at this ⊢;omega);rw [show bstr (tabs++[125])=bstr tabs++{ data:=#[125] } from (zax tabs [125]).symm] at hws;have HWs:=zh hws;clear hD3 hk3 hws x4 HLb HK2 HO2 Hb2 HBo2 HEl2;go_wp2_with fail
 go_at_call 109;refine HWs.out.mono ?_;rintro e4 w4 ⟨rfl,hD4,hk4⟩;have hs4:=hk4.size;have HK4:=zh (HK3.out.trans hk4);have HO4:=zh (hk4.own HO3.out (by omega) (by decide));have Hb4:=zh (Hb3.out.trans hk4.1);have HEl4:=zh (HEl3.out.low hk4.1);have HD4:=zh hD4;have x5:=HO4.out.cell (i:=5) rfl;clear hD4 hk4 HWs HK3 HO3 Hb3 HEl3;have hws:=zaT [10] HD4.out (by omega) (by have:=Hlen.out;simp only [zaZ,yA,yB,yL] at this ⊢;omega);have HWs:=zh (show Calls Tryz.prog 109 #[.pointer (some ⟨b,0,none⟩),.string { data:=#[10] }] w4 _ from hws);clear hws;go_wp2_with fail
 go_at_call 109;refine HWs.out.mono ?_;rintro e5 w5 ⟨rfl,hD5,hk5⟩;have HD5:=zh hD5;have HK5:=zh (HK4.out.trans hk5);clear hD5 hk5 HWs;go_wp2_with fail
 refine yE (results_none rfl _ _ _) rfl ⟨rfl,?_,HK5.out⟩;have:=HD5.out;simp only [zaZ,List.append_assoc,List.cons_append,List.nil_append] at this ⊢;exact this
theorem zjg {w0 w:World} {B b d:Nat} {bs tabs:List UInt8} {e:Ex} {body els:List St} {ve vb vl:Value} (hG:Glob w0) (hgB:glB<=B) (he:Shp 40 e) (hb0:Below B w0 w) (hB:B<=w.heap.size) (hE:EsL w B [e] ve) (hBo:SsL w B body vb) (hEl:SsL w B els vl) (hbd:Bd w B b bs) (htb:tabs.length+(d+1)<=100) (hlen:bs.length+(oneW tabs (.mk 4 0 [] [e] body els)).length+1<=100000000000000) (hLB:LnC w0 B d body) {n2:Int} {nm2:List UInt8} {es2:List Ex} {bo2 el2:List St} (hn:els=[.mk 4 n2 nm2 es2 bo2 el2]) (hBr:BrC w0 B d (.mk 4 n2 nm2 es2 bo2 el2)) :
  Calls Tryz.prog 113 #[.pointer (some ⟨b,0,none⟩),.agg #[.int .u8 4,.int .i64 0,.string { data:=#[] },ve,vb,vl],.string (bstr tabs)] w (LnE (oneW tabs (.mk 4 0 [] [e] body els)++[10]) B b bs w):=by
 subst hn;have hone:=zjy tabs e body (.mk 4 n2 nm2 es2 bo2 el2) rfl;unfold zaZ at hone;rw [hone] at hlen ⊢;obtain ⟨ae,ce,rfl,hce1,hce2⟩:=hE.form;obtain ⟨ab,cb,rfl,hcb1,hcb2⟩:=hBo.form;obtain ⟨al,cl,rfl,hcl1,hcl2⟩:=hEl.form;obtain ⟨eb,eoff,op,n,name,args,aa,ac,rfl,heb,hebw,hy,c0,c1,c2,c3,hL'⟩:=hE.at (k:=0) (by simp);cases hy;simp only [Nat.zero_mul,Nat.add_zero] at c0 c1 c2 c3;have hWr:=zcm hG hgB he (by omega);have hes:∀ k,(zak (.mk op n name args) k).length<=1000000000000000:=zaE he (by omega);have hE1:=hes 1;rw [zaL] at hE1;obtain ⟨W0,hW0,hb1,hO0⟩:∃ W0,W0=w.alloc (.cells #[.int .u8 4,.int .i64 0,.string { data:=#[] },.slice (some ⟨eb,eoff,none⟩) 1 ce,.slice ab body.length cb,.slice al 1 cl] 184)/\Below w.heap.size w W0/\OwnV W0 w.heap.size 184 [.int .u8 4,.int .i64 0,.string { data:=#[] },.slice (some ⟨eb,eoff,none⟩) 1 ce,.slice ab body.length cb,.slice al 1 cl]:=⟨_,rfl,(yR _ _).alloc (zr _) _,OwnV.new _ _ _⟩;have hC:=hWr op n name args _ W0 0 rfl (hb0.trans (hb1.mono hB)) (yT hB hb1.size) (hL'.low (hb1.mono hB)) (by omega);rw [zaL] at hC;obtain ⟨E,hEq⟩:∃ T,zab (.mk op n name args)=T:=⟨_,rfl⟩;rw [hEq] at hC hE1 hlen ⊢;have HC:=zh hC;have hEz:(bstr E).size<=1000000000000000:=by rw [zaC];exact hE1
 have htz:(bstr tabs).size<=100:=by rw [zaC];omega
 have HLB:=zh hLB;have HBr:=zh hBr;have d0:=Below.keep hb1 c0;have d1:=Below.keep hb1 c1;have d2:=Below.keep hb1 c2;have d3:=Below.keep hb1 c3;have x3:=hO0.cell (i:=3) rfl;have HW0:=zh hW0;have HO0:=zh hO0;have HK0:=zh (Kp.of_below (b:=b) hb1 hB);have HD0:=zh (hbd.below hb1);have Hb0:=zh (hb0.trans (hb1.mono hB));have HBo:=zh (hBo.low (hb1.mono hB));have HEl:=zh (hEl.low (hb1.mono hB));have hs0:=hb1.size;have hbl:=hbd.lt;have hge:=hbd.ge;have Hlen:=zh hlen;have htb2:tabs.length+d<=99:=by omega
 have htb3:(tabs++[9]).length+d<=100:=by rw [yA];show tabs.length+1+d<=100;omega
 clear hW0 hO0 hb1 hE hBo hEl hbd hb0 hL' hC hWr he c0 c1 c2 c3 hlen hLB hes hEq hone hG hE1 htb hBr;go_enter Tryz.func113,Tryz.ntmps113
 go_upto_region 1 with (fail)
 rw [<- HW0.out];go_wp2_with fail
 go_at_call 111;refine HC.out.mono ?_;rintro e1 w1 ⟨rfl,hb2⟩;have hs1:=hb2.size;have HK1:=zh (HK0.out.trans (Kp.of_below (b:=b) hb2 (by omega)));have HD1:=zh (HD0.out.below hb2);have HO1:=zh (HO0.out.below hb2 (zr _));have Hb1:=zh (Hb0.out.trans (hb2.mono (by omega)));have HBo1:=zh (HBo.out.low (hb2.mono (by omega)));have HEl1:=zh (HEl.out.low (hb2.mono (by omega)));have hP1:bstr ([105,102,32,40]++E++[41,32,123,10])=(({ data:=#[105,102,32,40] }:ByteArray)++bstr E)++{ data:=#[41,32,123,10] }:=by rw [<- zax,<- zax];rfl
 have hws:=zaT ([105,102,32,40]++E++[41,32,123,10]) HD1.out (by omega) (by have:=Hlen.out;simp only [zaZ,yA,yB,yL] at this ⊢;omega);rw [hP1] at hws;have HWs:=zh hws;clear hb2 HC HK0 HD0 HO0 Hb0 HBo HEl d0 d1 d2 d3 x3 hws hP1
 generalize bstr E=SE at *
 go_wp2_with fail
 go_at_call 109;refine HWs.out.mono ?_;rintro e2 w2 ⟨rfl,hD2,hk2⟩;have hs2:=hk2.size;have HK2:=zh (HK1.out.trans hk2);have HO2:=zh (hk2.own HO1.out (by omega) (by decide));have Hb2:=zh (Hb1.out.trans hk2.1);have HBo2:=zh (HBo1.out.low hk2.1);have HEl2:=zh (HEl1.out.low hk2.1);have hlb:=HLB.out _ w2 b _ (tabs++[9]) Hb2.out (by omega) HBo2.out hD2 htb3 (by have:=Hlen.out;simp only [zaZ,yA,yB,yL] at this ⊢;omega);rw [show bstr (tabs++[9])=bstr tabs++{ data:=#[9] } from (zax tabs [9]).symm] at hlb;have HLb:=zh hlb;have x4:=HO2.out.cell (i:=4) rfl;clear hD2 hk2 hlb HWs HK1 HD1 HO1 Hb1 HBo1 HEl1 HLB;go_wp2_with fail
 go_at_call 70;refine HLb.out.mono ?_;rintro e3 w3 ⟨rfl,hD3,hk3⟩;have hs3:=hk3.size;have HK3:=zh (HK2.out.trans hk3);have HO3:=zh (hk3.own HO2.out (by omega) (by decide));have Hb3:=zh (Hb2.out.trans hk3.1);have HEl3:=zh (HEl2.out.low hk3.1);have hws:=zaT (tabs++[125]) hD3 (by omega) (by have:=Hlen.out;simp only [zaZ,yA,yB,yL] at this ⊢;omega);rw [show bstr (tabs++[125])=bstr tabs++{ data:=#[125] } from (zax tabs [125]).symm] at hws;have HWs:=zh hws;clear hD3 hk3 hws x4 HLb HK2 HO2 Hb2 HBo2 HEl2;go_wp2_with fail
 go_at_call 109;refine HWs.out.mono ?_;rintro e4 w4 ⟨rfl,hD4,hk4⟩;have hs4:=hk4.size;have HK4:=zh (HK3.out.trans hk4);have HO4:=zh (hk4.own HO3.out (by omega) (by decide));have Hb4:=zh (Hb3.out.trans hk4.1);have HEl4:=zh (HEl3.out.low hk4.1);have HD4:=zh hD4;have x5:=HO4.out.cell (i:=5) rfl;clear hD4 hk4 HWs HK3 HO3 Hb3 HEl3;obtain ⟨lb,loff,op2,n2',nm2',es2',bo2',el2',ae2,ce2,ab2,cb2,al2,cl2,rfl,hlbB,hlbw,hy2,g0,g1,g2,g3,g4,g5,hEs2,hBo2,hEl2⟩:=HEl4.out.at (k:=0) (by simp);cases hy2;simp only [Nat.zero_mul,Nat.add_zero] at g0 g1 g2 g3 g4 g5;have hws:=zaT [32,101,108,115,101,32] HD4.out (by omega) (by have:=Hlen.out;simp only [yA,yB,yL] at this ⊢;omega);have HWs:=zh (show Calls Tryz.prog 109 #[.pointer (some ⟨b,0,none⟩),.string { data:=#[32,101,108,115,101,32] }] w4 _ from hws);have HEs2:=zh hEs2;have HBo2:=zh hBo2;have HEl2:=zh hEl2;clear hws hEs2 hBo2 hEl2;go_wp2_with fail
 go_at_call 109;refine HWs.out.mono ?_;rintro e5 w5 ⟨rfl,hD5,hk5⟩;have hs5:=hk5.size;have HK5:=zh (HK4.out.trans hk5);have HO5:=zh (hk5.own HO4.out (by omega) (by decide));have g0':=zdd hk5.1 hlbB g0;have g1':=zdd hk5.1 hlbB g1;have g2':=zdd hk5.1 hlbB g2;have g3':=zdd hk5.1 hlbB g3;have g4':=zdd hk5.1 hlbB g4;have g5':=zdd hk5.1 hlbB g5;have hbr:=HBr.out 4 n2 nm2 es2 bo2 el2 _ _ _ w5 b _ tabs rfl (Hb4.out.trans hk5.1) (by omega) (HEs2.out.low hk5.1) (HBo2.out.low hk5.1) (HEl2.out.low hk5.1) hD5 (by omega) (by have:=Hlen.out;simp only [yA,yB,yL] at this ⊢;omega);have HBr5:=zh hbr;have x5:=HO5.out.cell (i:=5) rfl;clear hD5 hk5 HWs hbr HBr g0 g1 g2 g3 g4 g5 HO4 HK4 HD4;go_wp2_with fail
 go_at_call 113;refine HBr5.out.mono ?_;rintro e6 w6 ⟨rfl,hD6,hk6⟩;have HD6:=zh hD6;have HK6:=zh (HK5.out.trans hk6);clear hD6 hk6 HBr5;go_wp2_with fail
 refine yE (results_none rfl _ _ _) rfl ⟨rfl,?_,HK6.out⟩;have:=HD6.out;simp only [List.append_assoc,List.cons_append,List.nil_append] at this ⊢;exact this
theorem zgP {w0 w:World} {B b d:Nat} {bs tabs:List UInt8} {e:Ex} {body els:List St} {ve vb vl:Value} (hG:Glob w0) (hgB:glB<=B) (he:Shp 40 e) (hb0:Below B w0 w) (hB:B<=w.heap.size) (hE:EsL w B [e] ve) (hBo:SsL w B body vb) (hEl:SsL w B els vl) (hbd:Bd w B b bs) (htb:tabs.length+(d+1)<=100) (hlen:bs.length+(oneW tabs (.mk 4 0 [] [e] body els)).length+1<=100000000000000) (hLB:LnC w0 B d body) {o2 n2:Int} {nm2:List UInt8} {es2:List Ex} {bo2 el2:List St} (hn:els=[.mk o2 n2 nm2 es2 bo2 el2]) (ho2:o2≠4) (hLE:LnC w0 B d [.mk o2 n2 nm2 es2 bo2 el2]) :
  Calls Tryz.prog 113 #[.pointer (some ⟨b,0,none⟩),.agg #[.int .u8 4,.int .i64 0,.string { data:=#[] },ve,vb,vl],.string (bstr tabs)] w (LnE (oneW tabs (.mk 4 0 [] [e] body els)++[10]) B b bs w):=by
 subst hn;have hone:=zgG tabs e body (.mk o2 n2 nm2 es2 bo2 el2) [] (by simpa [zdM] using ho2);unfold zaZ at hone;rw [hone] at hlen ⊢;obtain ⟨ae,ce,rfl,hce1,hce2⟩:=hE.form;obtain ⟨ab,cb,rfl,hcb1,hcb2⟩:=hBo.form;obtain ⟨al,cl,rfl,hcl1,hcl2⟩:=hEl.form;obtain ⟨eb,eoff,op,n,name,args,aa,ac,rfl,heb,hebw,hy,c0,c1,c2,c3,hL'⟩:=hE.at (k:=0) (by simp);cases hy;simp only [Nat.zero_mul,Nat.add_zero] at c0 c1 c2 c3;have hWr:=zcm hG hgB he (by omega);have hes:∀ k,(zak (.mk op n name args) k).length<=1000000000000000:=zaE he (by omega);have hE1:=hes 1;rw [zaL] at hE1;obtain ⟨W0,hW0,hb1,hO0⟩:∃ W0,W0=w.alloc (.cells #[.int .u8 4,.int .i64 0,.string { data:=#[] },.slice (some ⟨eb,eoff,none⟩) 1 ce,.slice ab body.length cb,.slice al 1 cl] 184)/\Below w.heap.size w W0/\OwnV W0 w.heap.size 184 [.int .u8 4,.int .i64 0,.string { data:=#[] },.slice (some ⟨eb,eoff,none⟩) 1 ce,.slice ab body.length cb,.slice al 1 cl]:=⟨_,rfl,(yR _ _).alloc (zr _) _,OwnV.new _ _ _⟩;have hC:=hWr op n name args _ W0 0 rfl (hb0.trans (hb1.mono hB)) (yT hB hb1.size) (hL'.low (hb1.mono hB)) (by omega);rw [zaL] at hC;obtain ⟨E,hEq⟩:∃ T,zab (.mk op n name args)=T:=⟨_,rfl⟩;rw [hEq] at hC hE1 hlen ⊢;have HC:=zh hC;have hEz:(bstr E).size<=1000000000000000:=by rw [zaC];exact hE1
 have htz:(bstr tabs).size<=100:=by rw [zaC];omega
 have HLB:=zh hLB;have HLE:=zh hLE;have d0:=Below.keep hb1 c0;have d1:=Below.keep hb1 c1;have d2:=Below.keep hb1 c2;have d3:=Below.keep hb1 c3;have x3:=hO0.cell (i:=3) rfl;have HW0:=zh hW0;have HO0:=zh hO0;have HK0:=zh (Kp.of_below (b:=b) hb1 hB);have HD0:=zh (hbd.below hb1);have Hb0:=zh (hb0.trans (hb1.mono hB));have HBo:=zh (hBo.low (hb1.mono hB));have HEl:=zh (hEl.low (hb1.mono hB));have hs0:=hb1.size;have hbl:=hbd.lt;have hge:=hbd.ge;have Hlen:=zh hlen;have htb2:tabs.length+d<=99:=by omega
 have htb3:(tabs++[9]).length+d<=100:=by rw [yA];show tabs.length+1+d<=100;omega
 clear hW0 hO0 hb1 hE hBo hEl hbd hb0 hL' hC hWr he c0 c1 c2 c3 hlen hLB hes hEq hone hG hE1 htb hLE;go_enter Tryz.func113,Tryz.ntmps113
 go_upto_region 1 with (fail)
 rw [<- HW0.out];go_wp2_with fail
 go_at_call 111;refine HC.out.mono ?_;rintro e1 w1 ⟨rfl,hb2⟩;have hs1:=hb2.size;have HK1:=zh (HK0.out.trans (Kp.of_below (b:=b) hb2 (by omega)));have HD1:=zh (HD0.out.below hb2);have HO1:=zh (HO0.out.below hb2 (zr _));have Hb1:=zh (Hb0.out.trans (hb2.mono (by omega)));have HBo1:=zh (HBo.out.low (hb2.mono (by omega)));have HEl1:=zh (HEl.out.low (hb2.mono (by omega)));have hP1:bstr ([105,102,32,40]++E++[41,32,123,10])=(({ data:=#[105,102,32,40] }:ByteArray)++bstr E)++{ data:=#[41,32,123,10] }:=by rw [<- zax,<- zax];rfl
 have hws:=zaT ([105,102,32,40]++E++[41,32,123,10]) HD1.out (by omega) (by have:=Hlen.out;simp only [zaZ,yA,yB,yL] at this ⊢;omega);rw [hP1] at hws;have HWs:=zh hws;clear hb2 HC HK0 HD0 HO0 Hb0 HBo HEl d0 d1 d2 d3 x3 hws hP1
 generalize bstr E=SE at *
 go_wp2_with fail
 go_at_call 109;refine HWs.out.mono ?_;rintro e2 w2 ⟨rfl,hD2,hk2⟩;have hs2:=hk2.size;have HK2:=zh (HK1.out.trans hk2);have HO2:=zh (hk2.own HO1.out (by omega) (by decide));have Hb2:=zh (Hb1.out.trans hk2.1);have HBo2:=zh (HBo1.out.low hk2.1);have HEl2:=zh (HEl1.out.low hk2.1);have hlb:=HLB.out _ w2 b _ (tabs++[9]) Hb2.out (by omega) HBo2.out hD2 htb3 (by have:=Hlen.out;simp only [zaZ,yA,yB,yL] at this ⊢;omega);rw [show bstr (tabs++[9])=bstr tabs++{ data:=#[9] } from (zax tabs [9]).symm] at hlb;have HLb:=zh hlb;have x4:=HO2.out.cell (i:=4) rfl;clear hD2 hk2 hlb HWs HK1 HD1 HO1 Hb1 HBo1 HEl1 HLB;go_wp2_with fail
 go_at_call 70;refine HLb.out.mono ?_;rintro e3 w3 ⟨rfl,hD3,hk3⟩;have hs3:=hk3.size;have HK3:=zh (HK2.out.trans hk3);have HO3:=zh (hk3.own HO2.out (by omega) (by decide));have Hb3:=zh (Hb2.out.trans hk3.1);have HEl3:=zh (HEl2.out.low hk3.1);have hws:=zaT (tabs++[125]) hD3 (by omega) (by have:=Hlen.out;simp only [zaZ,yA,yB,yL] at this ⊢;omega);rw [show bstr (tabs++[125])=bstr tabs++{ data:=#[125] } from (zax tabs [125]).symm] at hws;have HWs:=zh hws;clear hD3 hk3 hws x4 HLb HK2 HO2 Hb2 HBo2 HEl2;go_wp2_with fail
 go_at_call 109;refine HWs.out.mono ?_;rintro e4 w4 ⟨rfl,hD4,hk4⟩;have hs4:=hk4.size;have HK4:=zh (HK3.out.trans hk4);have HO4:=zh (hk4.own HO3.out (by omega) (by decide));have Hb4:=zh (Hb3.out.trans hk4.1);have HEl4:=zh (HEl3.out.low hk4.1);have HD4:=zh hD4;have x5:=HO4.out.cell (i:=5) rfl;clear hD4 hk4 HWs HK3 HO3 Hb3 HEl3;obtain ⟨lb,loff,op2,n2',nm2',es2',bo2',el2',ae2,ce2,ab2,cb2,al2,cl2,rfl,hlbB,hlbw,hy2,g0,-,-,-,-,-,-,-,-⟩:=HEl4.out.at (k:=0) (by simp);cases hy2;simp only [Nat.zero_mul,Nat.add_zero] at g0;have ho3:(o2 == 4)=false:=by simpa using ho2
 have hws:=zaT [32,101,108,115,101,32,123,10] HD4.out (by omega) (by have:=Hlen.out;simp only [yA,yB,yL] at this ⊢;omega);have HWs:=zh (show Calls Tryz.prog 109 #[.pointer (some ⟨b,0,none⟩),.string { data:=#[32,101,108,115,101,32,123,10] }] w4 _ from hws);clear hws;go_wp2_with fail
 go_at_call 109;refine HWs.out.mono ?_;rintro e5 w5 ⟨rfl,hD5,hk5⟩;have hs5:=hk5.size;have HK5:=zh (HK4.out.trans hk5);have HO5:=zh (hk5.own HO4.out (by omega) (by decide));have hle:=HLE.out _ w5 b _ (tabs++[9]) (Hb4.out.trans hk5.1) (by omega) (HEl4.out.low hk5.1) hD5 htb3 (by have:=Hlen.out;simp only [yA,yB,yL] at this ⊢;omega);rw [show bstr (tabs++[9])=bstr tabs++{ data:=#[9] } from (zax tabs [9]).symm] at hle;have HLe:=zh hle;have x5:=HO5.out.cell (i:=5) rfl;clear hD5 hk5 HWs hle HLE HO4 HK4 HD4;go_wp2_with fail
 go_at_call 70;refine HLe.out.mono ?_;rintro e6 w6 ⟨rfl,hD6,hk6⟩;have hs6:=hk6.size;have HK6:=zh (HK5.out.trans hk6);have hws:=zaT (tabs++[125,10]) hD6 (by omega) (by have:=Hlen.out;simp only [yA,yB,yL] at this ⊢;omega);rw [show bstr (tabs++[125,10])=bstr tabs++{ data:=#[125,10] } from (zax tabs [125,10]).symm] at hws;have HWs:=zh hws;clear hD6 hk6 HLe hws x5 HK5 HO5;go_wp2_with fail
 go_at_call 109;refine HWs.out.mono ?_;rintro e7 w7 ⟨rfl,hD7,hk7⟩;have HD7:=zh hD7;have HK7:=zh (HK6.out.trans hk7);clear hD7 hk7 HWs;go_wp2_with fail
 refine yE (results_none rfl _ _ _) rfl ⟨rfl,?_,HK7.out⟩;have:=HD7.out;simp only [List.append_assoc,List.cons_append,List.nil_append] at this ⊢;exact this
theorem zgQ {w0 w:World} {B b d:Nat} {bs tabs:List UInt8} {e:Ex} {body els:List St} {ve vb vl:Value} (hG:Glob w0) (hgB:glB<=B) (he:Shp 40 e) (hb0:Below B w0 w) (hB:B<=w.heap.size) (hE:EsL w B [e] ve) (hBo:SsL w B body vb) (hEl:SsL w B els vl) (hbd:Bd w B b bs) (htb:tabs.length+(d+1)<=100) (hlen:bs.length+(oneW tabs (.mk 4 0 [] [e] body els)).length+1<=100000000000000) (hLB:LnC w0 B d body) (h2:2<=els.length) (hLE:LnC w0 B d els) :
  Calls Tryz.prog 113 #[.pointer (some ⟨b,0,none⟩),.agg #[.int .u8 4,.int .i64 0,.string { data:=#[] },ve,vb,vl],.string (bstr tabs)] w (LnE (oneW tabs (.mk 4 0 [] [e] body els)++[10]) B b bs w):=by
 have hone:=znm tabs e body h2;unfold zaZ at hone;rw [hone] at hlen ⊢;obtain ⟨ae,ce,rfl,hce1,hce2⟩:=hE.form;obtain ⟨ab,cb,rfl,hcb1,hcb2⟩:=hBo.form;obtain ⟨al,cl,rfl,hcl1,hcl2⟩:=hEl.form;obtain ⟨eb,eoff,op,n,name,args,aa,ac,rfl,heb,hebw,hy,c0,c1,c2,c3,hL'⟩:=hE.at (k:=0) (by simp);cases hy;simp only [Nat.zero_mul,Nat.add_zero] at c0 c1 c2 c3;have hWr:=zcm hG hgB he (by omega);have hes:∀ k,(zak (.mk op n name args) k).length<=1000000000000000:=zaE he (by omega);have hE1:=hes 1;rw [zaL] at hE1;obtain ⟨W0,hW0,hb1,hO0⟩:∃ W0,W0=w.alloc (.cells #[.int .u8 4,.int .i64 0,.string { data:=#[] },.slice (some ⟨eb,eoff,none⟩) 1 ce,.slice ab body.length cb,.slice al els.length cl] 184)/\Below w.heap.size w W0/\OwnV W0 w.heap.size 184 [.int .u8 4,.int .i64 0,.string { data:=#[] },.slice (some ⟨eb,eoff,none⟩) 1 ce,.slice ab body.length cb,.slice al els.length cl]:=⟨_,rfl,(yR _ _).alloc (zr _) _,OwnV.new _ _ _⟩;have hC:=hWr op n name args _ W0 0 rfl (hb0.trans (hb1.mono hB)) (yT hB hb1.size) (hL'.low (hb1.mono hB)) (by omega);rw [zaL] at hC;obtain ⟨E,hEq⟩:∃ T,zab (.mk op n name args)=T:=⟨_,rfl⟩;rw [hEq] at hC hE1 hlen ⊢;have HC:=zh hC;have hEz:(bstr E).size<=1000000000000000:=by rw [zaC];exact hE1
 have htz:(bstr tabs).size<=100:=by rw [zaC];omega
 have HLB:=zh hLB;have HLE:=zh hLE;have d0:=Below.keep hb1 c0;have d1:=Below.keep hb1 c1;have d2:=Below.keep hb1 c2;have d3:=Below.keep hb1 c3;have x3:=hO0.cell (i:=3) rfl;have HW0:=zh hW0;have HO0:=zh hO0;have HK0:=zh (Kp.of_below (b:=b) hb1 hB);have HD0:=zh (hbd.below hb1);have Hb0:=zh (hb0.trans (hb1.mono hB));have HBo:=zh (hBo.low (hb1.mono hB));have HEl:=zh (hEl.low (hb1.mono hB));have hs0:=hb1.size;have hbl:=hbd.lt;have hge:=hbd.ge;have Hlen:=zh hlen;have htb2:tabs.length+d<=99:=by omega
 have htb3:(tabs++[9]).length+d<=100:=by rw [yA];show tabs.length+1+d<=100;omega
 clear hW0 hO0 hb1 hE hBo hEl hbd hb0 hL' hC hWr he c0 c1 c2 c3 hlen hLB hes hEq hone hG hE1 htb hLE;go_enter Tryz.func113,Tryz.ntmps113
 go_upto_region 1 with (fail)
 rw [<- HW0.out];go_wp2_with fail
 go_at_call 111;refine HC.out.mono ?_;rintro e1 w1 ⟨rfl,hb2⟩;have hs1:=hb2.size;have HK1:=zh (HK0.out.trans (Kp.of_below (b:=b) hb2 (by omega)));have HD1:=zh (HD0.out.below hb2);have HO1:=zh (HO0.out.below hb2 (zr _));have Hb1:=zh (Hb0.out.trans (hb2.mono (by omega)));have HBo1:=zh (HBo.out.low (hb2.mono (by omega)));have HEl1:=zh (HEl.out.low (hb2.mono (by omega)));have hP1:bstr ([105,102,32,40]++E++[41,32,123,10])=(({ data:=#[105,102,32,40] }:ByteArray)++bstr E)++{ data:=#[41,32,123,10] }:=by rw [<- zax,<- zax];rfl
 have hws:=zaT ([105,102,32,40]++E++[41,32,123,10]) HD1.out (by omega) (by have:=Hlen.out;simp only [zaZ,yA,yB,yL] at this ⊢;omega);rw [hP1] at hws;have HWs:=zh hws;clear hb2 HC HK0 HD0 HO0 Hb0 HBo HEl d0 d1 d2 d3 x3 hws hP1
 generalize bstr E=SE at *
 go_wp2_with fail
 go_at_call 109;refine HWs.out.mono ?_;rintro e2 w2 ⟨rfl,hD2,hk2⟩;have hs2:=hk2.size;have HK2:=zh (HK1.out.trans hk2);have HO2:=zh (hk2.own HO1.out (by omega) (by decide));have Hb2:=zh (Hb1.out.trans hk2.1);have HBo2:=zh (HBo1.out.low hk2.1);have HEl2:=zh (HEl1.out.low hk2.1);have hlb:=HLB.out _ w2 b _ (tabs++[9]) Hb2.out (by omega) HBo2.out hD2 htb3 (by have:=Hlen.out;simp only [zaZ,yA,yB,yL] at this ⊢;omega);rw [show bstr (tabs++[9])=bstr tabs++{ data:=#[9] } from (zax tabs [9]).symm] at hlb;have HLb:=zh hlb;have x4:=HO2.out.cell (i:=4) rfl;clear hD2 hk2 hlb HWs HK1 HD1 HO1 Hb1 HBo1 HEl1 HLB;go_wp2_with fail
 go_at_call 70;refine HLb.out.mono ?_;rintro e3 w3 ⟨rfl,hD3,hk3⟩;have hs3:=hk3.size;have HK3:=zh (HK2.out.trans hk3);have HO3:=zh (hk3.own HO2.out (by omega) (by decide));have Hb3:=zh (Hb2.out.trans hk3.1);have HEl3:=zh (HEl2.out.low hk3.1);have hws:=zaT (tabs++[125]) hD3 (by omega) (by have:=Hlen.out;simp only [zaZ,yA,yB,yL] at this ⊢;omega);rw [show bstr (tabs++[125])=bstr tabs++{ data:=#[125] } from (zax tabs [125]).symm] at hws;have HWs:=zh hws;clear hD3 hk3 hws x4 HLb HK2 HO2 Hb2 HBo2 HEl2;go_wp2_with fail
 go_at_call 109;refine HWs.out.mono ?_;rintro e4 w4 ⟨rfl,hD4,hk4⟩;have hs4:=hk4.size;have HK4:=zh (HK3.out.trans hk4);have HO4:=zh (hk4.own HO3.out (by omega) (by decide));have Hb4:=zh (Hb3.out.trans hk4.1);have HEl4:=zh (HEl3.out.low hk4.1);have HD4:=zh hD4;have x5:=HO4.out.cell (i:=5) rfl;clear hD4 hk4 HWs HK3 HO3 Hb3 HEl3;have hl1:¬ ((els.length:Int)=1):=by omega
 have hl0:¬ ((els.length:Int)=0):=by omega
 have hl1b:((els.length:Int) == 1)=false:=by simpa using hl1
 have hl0b:((els.length:Int) == 0)=false:=by simpa using hl0
 have hws:=zaT [32,101,108,115,101,32,123,10] HD4.out (by omega) (by have:=Hlen.out;simp only [yA,yB,yL] at this ⊢;omega);have HWs:=zh (show Calls Tryz.prog 109 #[.pointer (some ⟨b,0,none⟩),.string { data:=#[32,101,108,115,101,32,123,10] }] w4 _ from hws);clear hws;go_wp2_with fail
 go_at_call 109;refine HWs.out.mono ?_;rintro e5 w5 ⟨rfl,hD5,hk5⟩;have hs5:=hk5.size;have HK5:=zh (HK4.out.trans hk5);have HO5:=zh (hk5.own HO4.out (by omega) (by decide));have hle:=HLE.out _ w5 b _ (tabs++[9]) (Hb4.out.trans hk5.1) (by omega) (HEl4.out.low hk5.1) hD5 htb3 (by have:=Hlen.out;simp only [yA,yB,yL] at this ⊢;omega);rw [show bstr (tabs++[9])=bstr tabs++{ data:=#[9] } from (zax tabs [9]).symm] at hle;have HLe:=zh hle;have x5:=HO5.out.cell (i:=5) rfl;clear hD5 hk5 HWs hle HLE HO4 HK4 HD4;go_wp2_with fail
 go_at_call 70;refine HLe.out.mono ?_;rintro e6 w6 ⟨rfl,hD6,hk6⟩;have hs6:=hk6.size;have HK6:=zh (HK5.out.trans hk6);have hws:=zaT (tabs++[125,10]) hD6 (by omega) (by have:=Hlen.out;simp only [yA,yB,yL] at this ⊢;omega);rw [show bstr (tabs++[125,10])=bstr tabs++{ data:=#[125,10] } from (zax tabs [125,10]).symm] at hws;have HWs:=zh hws;clear hD6 hk6 HLe hws x5 HK5 HO5;go_wp2_with fail
 go_at_call 109;refine HWs.out.mono ?_;rintro e7 w7 ⟨rfl,hD7,hk7⟩;have HD7:=zh hD7;have HK7:=zh (HK6.out.trans hk7);clear hD7 hk7 HWs;go_wp2_with fail
 refine yE (results_none rfl _ _ _) rfl ⟨rfl,?_,HK7.out⟩;have:=HD7.out;simp only [List.append_assoc,List.cons_append,List.nil_append] at this ⊢;exact this

theorem zhf (tabs:List UInt8):∀ (a b:List St),zaM tabs (a++b)=zaM tabs a++zaM tabs b:=by
 intro a
 induction a with
 | nil=>intro b;rw [zaM];rfl
 | cons x r ih =>
  intro b;rw [List.cons_append,zaM,zaM,ih];simp only [List.append_assoc]
theorem zkt {tabs:List UInt8} {l:List St} {k:Nat} {x:St} (h:l[k]? = some x):zaM tabs (l.take (k+1))=zaM tabs (l.take k)++(tabs++oneW tabs x++[10])/\(zaM tabs (l.take (k+1))).length<=(zaM tabs l).length:=by
 constructor
 ·rw [List.take_add_one,h,zhf];congr 1
  show zaM tabs [x]=_;rw [zaM,zaM,List.append_nil]
 ·conv=>rhs;rw [<- List.take_append_drop (k+1) l,zhf,yA]
  omega
theorem SsL.mono {w:World} {B B':Nat} {xs:List St} {v:Value} (h:SsL w B xs v) (hB:B<=B'):SsL w B' xs v:=by
 obtain ⟨cs,h1,h2,h3⟩:=h;exact ⟨cs,h1,h2.imp id fun k g e=>Nat.lt_of_lt_of_le (k g e) hB,h3.weak fun g _ hg=>Nat.lt_of_lt_of_le hg hB⟩
theorem zlI (w:World):Calls Tryz.prog 112 #[] w fun e w'=>e=.returned (.slice (some ⟨w.heap.size,0,none⟩) 11 11)/\OwnV w' w.heap.size 9 (kindWordsP.map fun s=>Value.string (bstr s))/\Below w.heap.size w w':=by
 go_enter Tryz.func112,Tryz.ntmps112
 go_wp2;go_ret;exact ⟨rfl,OwnV.new w 9 (kindWordsP.map fun s=>Value.string (bstr s)),(yR _ _).alloc (zr _) _⟩
theorem zgv {w0:World} {B d D:Nat} (hG:Glob w0) (hgB:glB<=B) (l:List St) (hsh:∀ s ∈ l,ShpT (d+1) s)
  (hLn:l≠[]->∀ l',(∀ s ∈ l',ShpT d s)->LnC w0 B D l') (hBr:l≠[]->∀ s,ShpT (d+1) s->opT s=4->BrC w0 B (D+1) s):LnC w0 B (D+1) l:=by
 intro v w b bs tabs hb0 hB hL hbd htb hlen;obtain ⟨la,lc,rfl,hlc1,hlc2⟩:=hL.form;have hmf:=zmf Tryz.prog
 have hen:=zhy;have Hb0:=zh hb0;have HL:=zh hL;have Hlen:=zh hlen;have hbl:=hbd.lt;have hge:=hbd.ge;have htz:(bstr tabs).size<=100:=by rw [zaC];omega
 have HG:=zh hG;have HSh:=zh hsh;have HLn:=zh hLn;have HBr:=zh hBr;have hll:(l.length:Int)<=9223372036854775807:=by omega
 have Htb:=zh htb;clear hb0 hL hlen hG hsh hLn hBr htb;go_enter Tryz.func70,Tryz.ntmps70
 go_wp2_with fail
 go_loopw [7,8,11,12,13,14,15,16,17,18,19,20,21,22,23,24,25,26,27,28,29,30,31,32,33,34,35,36,37,38,39,40,41,42,43,44,45,46,47,48,49,50,51,52,53,54,55,56,57,58,59,60,61,62,63,64,65,66,67,68,69,70,71,72,73,74,75,76,77,78,79,80,81,82,83,84,85,86,87,88,89,90,91,92,93,94] (fun _ _ t11 _ _ _ _ _ _ _ _ _ _ _ _ _ _ _ _ _ _ _ _ _ _ _ _ _ _ _ _ _ _ _ _ _ _ _ _ _ _ _ _ _ _ _ _ _ _ _ _ _ _ _ _ _ _ _ _ _ _ _ _ _ _ _ _ _ _ _ _ _ _ _ _ _ _ _ _ _ _ _ _ _ _ _ wr=>∃ k:Nat,t11=.int .i64 k/\k<=l.length/\Hid (Bd wr B b (bs++zaM tabs (l.take k)))/\Hid (Kp B b w wr)) (fun _ _ t11 _ _ _ _ _ _ _ _ _ _ _ _ _ _ _ _ _ _ _ _ _ _ _ _ _ _ _ _ _ _ _ _ _ _ _ _ _ _ _ _ _ _ _ _ _ _ _ _ _ _ _ _ _ _ _ _ _ _ _ _ _ _ _ _ _ _ _ _ _ _ _ _ _ _ _ _ _ _ _ _ _ _ _ _=>l.length - (intOf t11).toNat)
 case atStart=>exact ⟨0,by first | rfl | go_num,by omega,zh (by rw [List.take_zero,zaM,List.append_nil];exact hbd),zh (Kp.refl _ _ _)⟩
 case round =>
  clear hbd;obtain ⟨k,rfl,hk,HD,HK⟩:=hrel;have hs0:=HK.out.size;obtain hkl | hkl:k=l.length∨k < l.length:=by omega
  ·have hck:¬ ((k:Int) < (l.length:Int)):=by omega
   have hD:Bd wr B b (bs++zaM tabs l):=by have:=HD.out;rwa [hkl,List.take_length] at this
   have HD2:=zh hD;clear hD HD;go_wp2_with fail
   exact yE (results_none rfl _ _ _) rfl ⟨rfl,HD2.out,HK.out⟩
  ·have hck:(k:Int) < (l.length:Int):=by omega
   have hk0:(0:Int)<=(k:Int):=by omega
   obtain ⟨lb,loff,op,n,name,es,body,els,ae,ce,ab,cb,al,cl,rfl,hlB,hlw,hxk,c0,c1,c2,c3,c4,c5,hEs,hBo,hEl⟩:=(HL.out.low HK.out.1).at hkl;obtain ⟨hlt1,hlt2⟩:=zkt (tabs:=tabs) hxk;have hsx:=HSh.out _ (List.mem_of_getElem? hxk);have hne:l≠[]:=fun e=>by rw [e] at hkl;simp at hkl
   have hbx:=HBr.out hne _ hsx;have HLn:=zh (HLn.out hne);rw [hlt1,yA,yA,yA] at hlt2;obtain ⟨PF,hPF⟩:∃ P,bs++zaM tabs (l.take k)=P:=⟨_,rfl⟩
   have hPl:PF.length+(tabs.length+(oneW tabs (.mk op n name es body els)).length+1)<=100000000000000:=by
    have:=Hlen.out;rw [<- hPF,yA];simp only [yB,yL] at hlt2;omega
   rw [hPF] at HD
   have HNx:Hid (∀ W,Bd W B b (PF++tabs++oneW tabs (.mk op n name es body els)++[10])->Bd W B b (bs++zaM tabs (l.take (k+1)))):=zh (fun W h=>by
    rw [hlt1,<- List.append_assoc,hPF]
    simpa only [List.append_assoc] using h)
   obtain ⟨W2,hW2,hb2,hO2⟩:∃ W2,W2=wr.alloc (.cells #[.int .u8 op,.int .i64 n,.string (bstr name),.slice ae es.length ce,.slice ab body.length cb,.slice al els.length cl] 184)/\Below wr.heap.size wr W2/\OwnV W2 wr.heap.size 184 [.int .u8 op,.int .i64 n,.string (bstr name),.slice ae es.length ce,.slice ab body.length cb,.slice al els.length cl]:=⟨_,rfl,(yR _ _).alloc (zr _) _,OwnV.new _ _ _⟩;have HW2:=zh hW2;have HK2:=zh (HK.out.trans (Kp.of_below (b:=b) hb2 (by omega)));have HO2:=zh hO2;have HEs:=zh (hEs.low (hb2.mono (by omega)));have HBo:=zh (hBo.low (hb2.mono (by omega)));have HEl:=zh (hEl.low (hb2.mono (by omega)));have hs2:=hb2.size;have hws:=zaT tabs (HD.out.below hb2) (by omega) (by omega);have HWs:=zh hws;have hblr:=HD.out.lt;have HPl:=zh hPl;clear hW2 hb2 hO2 hEs hBo hEl hws hPF hPl HD hxk hlt1 hlt2 HSh HL HBr;go_upto_region 3 with (fail)
   rw [<- HW2.out];clear c0 c1 c2 c3 c4 c5;go_wp2_with fail
   go_at_call 109;refine HWs.out.mono ?_;rintro e3 w3 ⟨rfl,hD3,hk3⟩;have hs3:=hk3.size;have HK3:=zh (HK2.out.trans hk3);have HO3:=zh (hk3.own HO2.out (by omega) (by decide));have HEs3:=zh (HEs.out.low hk3.1);have HBo3:=zh (HBo.out.low hk3.1);have HEl3:=zh (HEl.out.low hk3.1);have HD3:=zh hD3;have Hb3:=zh (Hb0.out.trans HK3.out.1);have hlt3:=HO3.out.lt;clear hD3 hk3 HWs HK2 HO2 HEs HBo HEl
   generalize hgx:wr.heap.size=gx at *
   have x0:=HO3.out.cell (i:=0) rfl
   cases hsx with
   | @letS _ name e h he =>
    have hone:=zju tabs name e;have hnl:(bstr name).size<=24:=by rw [zaC];exact zcS (zbG h).1
    have HA0:Hid (∀ W,Below w3.heap.size w3 W->Calls Tryz.prog 110 #[.int .i64 0,.pointer (some ⟨gx,0,none⟩)] W (TxtE (zab e) W)):=zh (fun W hb=>zc4 (i:=0) (y:=e) HG.out hgB (HO3.out.below hb (zr _)) (HEs3.out.low (hb.mono (by omega))) (Hb3.out.trans (hb.mono (by omega))) (by have:=hb.size;omega) rfl he);obtain ⟨S0,hS0⟩:∃ S,bstr (zab e)=S:=⟨_,rfl⟩;have hln0:S0.size<=1000000000000000:=by rw [<- hS0,zaC,<- zaL];exact zaE he (by omega) _
    unfold TxtE at HA0;simp only [hS0] at HA0;have hbst:bstr ([108,101,116,32]++name++[32,61,32]++zab e++[59,10])=((({ data:=#[108,101,116,32] }:ByteArray)++bstr name)++{ data:=#[32,61,32] }++S0)++{ data:=#[59,10] }:=by rw [<- hS0];simp [zax,zbV]
    have x2:=HO3.out.cell (i:=2) rfl;go_upto_region 7 with (fail)
    refine zaW 9 (fun w'=>Below w3.heap.size w3 w') (by kernel_rfl) (by kernel_rfl) ((yR _ _).drew) ?_;simp only [List.take_succ_cons,List.take_zero,List.drop_succ_cons,List.drop_zero]
    repeat
     try simp only [Act.put,zs1,zs3,zs2]
     apply stepsSeq.cons
     ·intro w' hb1;have Hb1':=zh hb1;have x2':=Below.keep hb1 x2;simp only [Act.put,zs1,zs3,zs2];go_wp2_with (refine (HA0.out _ Hb1'.out).mono ?_;rintro e4 w4 ⟨rfl,hb2⟩)
      first | exact ⟨rfl,Hb1'.out⟩ | exact ⟨rfl,Hb1'.out.trans (hb2.mono Hb1'.out.size)⟩
    try simp only [Act.put,zs1,zs3,zs2]
    refine stepsSeq.nil ?_;intro w' hb1;have hs4:=hb1.size;have hws:=zaT ([108,101,116,32]++name++[32,61,32]++zab e++[59,10]) (HD3.out.below hb1) (by omega) (by have:=HPl.out;rw [hone] at this;simp only [yA,yB,yL] at this ⊢;omega);rw [hbst] at hws;have HWs:=zh hws;have HK4:=zh (HK3.out.trans (Kp.of_below (b:=b) hb1 (by omega)));clear hws hb1 hbst;go_wp2_with fail
    go_at_call 109;refine HWs.out.mono ?_;rintro e5 w5 ⟨rfl,hD5,hk5⟩;have HD5:=zh hD5;have HK9:=zh (HK4.out.trans hk5);clear hD5 hk5 HWs x0 x2;go_wp2_with fail
    go_roundw
    case measure=>show l.length - ((k:Int)+1).toNat < l.length - (k:Int).toNat;omega
    case rel=>exact ⟨k+1,by first | rfl | go_num,by omega,zh (HNx.out _ (by have:=HD5.out;rw [hone];simpa only [List.append_assoc,List.cons_append,List.nil_append] using this)),HK9⟩
   | @setS _ name e h he =>
    have hone:=zjv tabs name e;have hnl:(bstr name).size<=24:=by rw [zaC];exact zcS (zbG h).1
    have HA0:Hid (∀ W,Below w3.heap.size w3 W->Calls Tryz.prog 110 #[.int .i64 0,.pointer (some ⟨gx,0,none⟩)] W (TxtE (zab e) W)):=zh (fun W hb=>zc4 (i:=0) (y:=e) HG.out hgB (HO3.out.below hb (zr _)) (HEs3.out.low (hb.mono (by omega))) (Hb3.out.trans (hb.mono (by omega))) (by have:=hb.size;omega) rfl he);obtain ⟨S0,hS0⟩:∃ S,bstr (zab e)=S:=⟨_,rfl⟩;have hln0:S0.size<=1000000000000000:=by rw [<- hS0,zaC,<- zaL];exact zaE he (by omega) _
    unfold TxtE at HA0;simp only [hS0] at HA0;have hbst:bstr (name++[32,61,32]++zab e++[59,10])=((bstr name++{ data:=#[32,61,32] })++S0)++{ data:=#[59,10] }:=by rw [<- hS0];simp [zax,zbV]
    have x2:=HO3.out.cell (i:=2) rfl;go_upto_region 9 with (fail)
    refine zaW 8 (fun w'=>Below w3.heap.size w3 w') (by kernel_rfl) (by kernel_rfl) ((yR _ _).drew) ?_;simp only [List.take_succ_cons,List.take_zero,List.drop_succ_cons,List.drop_zero]
    repeat
     try simp only [Act.put,zs1,zs3,zs2]
     apply stepsSeq.cons
     ·intro w' hb1;have Hb1':=zh hb1;have x2':=Below.keep hb1 x2;simp only [Act.put,zs1,zs3,zs2];go_wp2_with (refine (HA0.out _ Hb1'.out).mono ?_;rintro e4 w4 ⟨rfl,hb2⟩)
      first | exact ⟨rfl,Hb1'.out⟩ | exact ⟨rfl,Hb1'.out.trans (hb2.mono Hb1'.out.size)⟩
    try simp only [Act.put,zs1,zs3,zs2]
    refine stepsSeq.nil ?_;intro w' hb1;have hs4:=hb1.size;have hws:=zaT (name++[32,61,32]++zab e++[59,10]) (HD3.out.below hb1) (by omega) (by have:=HPl.out;rw [hone] at this;simp only [yA,yB,yL] at this ⊢;omega);rw [hbst] at hws;have HWs:=zh hws;have HK4:=zh (HK3.out.trans (Kp.of_below (b:=b) hb1 (by omega)));clear hws hb1 hbst;go_wp2_with fail
    go_at_call 109;refine HWs.out.mono ?_;rintro e5 w5 ⟨rfl,hD5,hk5⟩;have HD5:=zh hD5;have HK9:=zh (HK4.out.trans hk5);clear hD5 hk5 HWs x0 x2;go_wp2_with fail
    go_roundw
    case measure=>show l.length - ((k:Int)+1).toNat < l.length - (k:Int).toNat;omega
    case rel=>exact ⟨k+1,by first | rfl | go_num,by omega,zh (HNx.out _ (by have:=HD5.out;rw [hone];simpa only [List.append_assoc,List.cons_append,List.nil_append] using this)),HK9⟩
   | @putS _ n e e' h0 h1 he he' =>
    have hone:=zjw tabs n e e';obtain ⟨N,rfl⟩:∃ N:Nat,n=(N:Int):=⟨n.toNat,by omega⟩;have hN1:1<=N:=by omega
    have hN2:N<=10:=by omega
    rw [show ((N:Int) - 1).toNat=N - 1 from by omega] at hone;have HA0:Hid (∀ W,Below w3.heap.size w3 W->Calls Tryz.prog 110 #[.int .i64 0,.pointer (some ⟨gx,0,none⟩)] W (TxtE (zab e) W)):=zh (fun W hb=>zc4 (i:=0) (y:=e) HG.out hgB (HO3.out.below hb (zr _)) (HEs3.out.low (hb.mono (by omega))) (Hb3.out.trans (hb.mono (by omega))) (by have:=hb.size;omega) rfl he);obtain ⟨S0,hS0⟩:∃ S,bstr (zab e)=S:=⟨_,rfl⟩;have hln0:S0.size<=1000000000000000:=by rw [<- hS0,zaC,<- zaL];exact zaE he (by omega) _
    unfold TxtE at HA0;simp only [hS0] at HA0;have HA1:Hid (∀ W,Below w3.heap.size w3 W->Calls Tryz.prog 110 #[.int .i64 1,.pointer (some ⟨gx,0,none⟩)] W (TxtE (zab e') W)):=zh (fun W hb=>zc4 (i:=1) (y:=e') HG.out hgB (HO3.out.below hb (zr _)) (HEs3.out.low (hb.mono (by omega))) (Hb3.out.trans (hb.mono (by omega))) (by have:=hb.size;omega) rfl he');obtain ⟨S1,hS1⟩:∃ S,bstr (zab e')=S:=⟨_,rfl⟩;have hln1:S1.size<=1000000000000000:=by rw [<- hS1,zaC,<- zaL];exact zaE he' (by omega) _
    unfold TxtE at HA1;simp only [hS1] at HA1;obtain ⟨KW,hKW⟩:∃ K,bstr (kindWords.getD (N - 1) [])=K:=⟨_,rfl⟩
    have hkwl:KW.size<=100:=by
     rw [<- hKW,zaC];have:=zd7 (n:=(N:Int)) (by omega) (by omega);rw [show ((N:Int) - 1).toNat=N - 1 from by omega] at this;omega
    have hbst:bstr (kindWords.getD (N - 1) []++[91]++zab e++[93,32,61,32]++zab e'++[59,10])=((((KW++{ data:=#[91] })++S0)++{ data:=#[93,32,61,32] })++S1)++{ data:=#[59,10] }:=by rw [<- hS0,<- hS1,<- hKW];simp [zax,zbV]
    have HKW:=zh hKW
    have hcell:∀ W,OwnV W w3.heap.size 9 (kindWordsP.map fun s=>Value.string (bstr s))->W.cell? ⟨w3.heap.size,N,none⟩=some (.string KW):=fun W h=>by
     have:=h.cell (i:=N) (v:=.string KW) (by rw [List.getElem?_map,zjG hN1 hN2,<- HKW.out];rfl);exact this
    have Hcell:=zh hcell;have HKn:=zh (zlI w3.drew);have hNi:(N:Int) < 11:=by omega
    have hNj:(0:Int)<=(N:Int):=by omega
    have x1:=HO3.out.cell (i:=1) rfl;clear hcell hKW hS0 hS1;go_upto_region 11 with (fail)
    refine zc7 15 [0,3,0,0,4,4,4,0,4,4,4,0,4,4,4] (fun b w'=>Below w3.heap.size w3 w'/\(b=false->w'=w3.drew)/\(b=true->w'.cell? ⟨w3.heap.size,N,none⟩=some (.string KW))) (by kernel_rfl) (by kernel_rfl) ⟨(yR _ _).drew,fun _=>rfl,fun h=>by cases h⟩ ?_;simp only [List.take_succ_cons,List.take_zero,List.drop_succ_cons,List.drop_zero];try simp only [Act.put,zs1,zs3,zs2]
    apply stepsSeq2.val
    ·rintro b w' hE;have HE:=zh hE;have x1':=Below.keep hE.1 x1;clear hE;try simp only [Act.put,zs1,zs3,zs2]
     go_wp2;exact ⟨rfl,HE.out⟩
    try simp only [Act.put,zs1,zs3,zs2]
    apply stepsSeq2.mem
    ·rintro w' ⟨-,hE0,-⟩;obtain rfl:=hE0 rfl;try simp only [Act.put,zs1,zs3,zs2]
     go_wp2_with fail
     go_at_call 112;refine HKn.out.mono ?_;rintro e4 w4 ⟨rfl,hs4,hb4⟩;have Hs4:=zh (Hcell.out _ hs4);have Hb4:=zh hb4;clear hs4 hb4;go_wp2;exact ⟨rfl,Below.trans (b:=w3.drew) (yR _ _).drew Hb4.out,fun h=>(by cases h),fun _=>Hs4.out⟩
    try simp only [Act.put,zs1,zs3,zs2]
    apply stepsSeq2.val
    ·rintro b w' hE;have HE:=zh hE;have x1':=Below.keep hE.1 x1;clear hE;try simp only [Act.put,zs1,zs3,zs2]
     go_wp2;exact ⟨rfl,HE.out⟩
    try simp only [Act.put,zs1,zs3,zs2]
    apply stepsSeq2.val
    ·rintro b w' hE;have HE:=zh hE;have x1':=Below.keep hE.1 x1;clear hE;try simp only [Act.put,zs1,zs3,zs2]
     go_wp2;exact ⟨rfl,HE.out⟩
    try simp only [Act.put,zs1,zs3,zs2]
    apply stepsSeq2.back
    ·rintro w' hE;have HE:=zh hE;have kc:w'.cell? ⟨w3.heap.size,N,none⟩=some (.string KW):=hE.2.2 rfl;clear hE;try simp only [Act.put,zs1,zs3,zs2]
     go_wp2;first | exact ⟨rfl,HE.out⟩ | exact ⟨rfl,HE.out.1,HE.out.2.2 trivial⟩
    try simp only [Act.put,zs1,zs3,zs2]
    apply stepsSeq2.back
    ·rintro w' hE;have HE:=zh hE;have kc:w'.cell? ⟨w3.heap.size,N,none⟩=some (.string KW):=hE.2.2 rfl;clear hE;try simp only [Act.put,zs1,zs3,zs2]
     go_wp2;first | exact ⟨rfl,HE.out⟩ | exact ⟨rfl,HE.out.1,HE.out.2.2 trivial⟩
    try simp only [Act.put,zs1,zs3,zs2]
    apply stepsSeq2.back
    ·rintro w' hE;have HE:=zh hE;have kc:w'.cell? ⟨w3.heap.size,N,none⟩=some (.string KW):=hE.2.2 rfl;clear hE;try simp only [Act.put,zs1,zs3,zs2]
     go_wp2;first | exact ⟨rfl,HE.out⟩ | exact ⟨rfl,HE.out.1,HE.out.2.2 trivial⟩
    try simp only [Act.put,zs1,zs3,zs2]
    apply stepsSeq2.val
    ·rintro b w' hE;have HE:=zh hE;have x1':=Below.keep hE.1 x1;clear hE;try simp only [Act.put,zs1,zs3,zs2]
     go_wp2;exact ⟨rfl,HE.out⟩
    try simp only [Act.put,zs1,zs3,zs2]
    apply stepsSeq2.back
    ·rintro w' hE;have HE:=zh hE;clear hE;try simp only [Act.put,zs1,zs3,zs2]
     go_wp2_with fail
     refine (HA0.out _ HE.out.1).mono ?_;rintro e4 w4 ⟨rfl,hb4⟩;have Hb4:=zh hb4;clear hb4;go_wp2;exact ⟨rfl,HE.out.1.trans (Hb4.out.mono HE.out.1.size),fun h=>(by cases h),fun _=>Below.keep Hb4.out (HE.out.2.2 (by first | rfl | trivial))⟩
    try simp only [Act.put,zs1,zs3,zs2]
    apply stepsSeq2.back
    ·rintro w' hE;have HE:=zh hE;have kc:w'.cell? ⟨w3.heap.size,N,none⟩=some (.string KW):=hE.2.2 rfl;clear hE;try simp only [Act.put,zs1,zs3,zs2]
     go_wp2;first | exact ⟨rfl,HE.out⟩ | exact ⟨rfl,HE.out.1,HE.out.2.2 trivial⟩
    try simp only [Act.put,zs1,zs3,zs2]
    apply stepsSeq2.back
    ·rintro w' hE;have HE:=zh hE;have kc:w'.cell? ⟨w3.heap.size,N,none⟩=some (.string KW):=hE.2.2 rfl;clear hE;try simp only [Act.put,zs1,zs3,zs2]
     go_wp2;first | exact ⟨rfl,HE.out⟩ | exact ⟨rfl,HE.out.1,HE.out.2.2 trivial⟩
    try simp only [Act.put,zs1,zs3,zs2]
    apply stepsSeq2.val
    ·rintro b w' hE;have HE:=zh hE;have x1':=Below.keep hE.1 x1;clear hE;try simp only [Act.put,zs1,zs3,zs2]
     go_wp2;exact ⟨rfl,HE.out⟩
    try simp only [Act.put,zs1,zs3,zs2]
    apply stepsSeq2.back
    ·rintro w' hE;have HE:=zh hE;clear hE;try simp only [Act.put,zs1,zs3,zs2]
     go_wp2_with fail
     refine (HA1.out _ HE.out.1).mono ?_;rintro e4 w4 ⟨rfl,hb4⟩;have Hb4:=zh hb4;clear hb4;go_wp2;exact ⟨rfl,HE.out.1.trans (Hb4.out.mono HE.out.1.size),fun h=>(by cases h),fun _=>Below.keep Hb4.out (HE.out.2.2 (by first | rfl | trivial))⟩
    try simp only [Act.put,zs1,zs3,zs2]
    apply stepsSeq2.back
    ·rintro w' hE;have HE:=zh hE;have kc:w'.cell? ⟨w3.heap.size,N,none⟩=some (.string KW):=hE.2.2 rfl;clear hE;try simp only [Act.put,zs1,zs3,zs2]
     go_wp2;first | exact ⟨rfl,HE.out⟩ | exact ⟨rfl,HE.out.1,HE.out.2.2 trivial⟩
    try simp only [Act.put,zs1,zs3,zs2]
    apply stepsSeq2.back
    ·rintro w' hE;have HE:=zh hE;have kc:w'.cell? ⟨w3.heap.size,N,none⟩=some (.string KW):=hE.2.2 rfl;clear hE;try simp only [Act.put,zs1,zs3,zs2]
     go_wp2;first | exact ⟨rfl,HE.out⟩ | exact ⟨rfl,HE.out.1,HE.out.2.2 trivial⟩
    try simp only [Act.put,zs1,zs3,zs2]
    refine stepsSeq2.nil ?_;rintro w4 ⟨hb1,-,-⟩;have hs4:=hb1.size;have hws:=zaT (kindWords.getD (N - 1) []++[91]++zab e++[93,32,61,32]++zab e'++[59,10]) (HD3.out.below hb1) (by omega) (by have:=HPl.out;rw [hone] at this;simp only [yA,yB,yL] at this ⊢;omega);rw [hbst] at hws;have HWs:=zh hws;have HK4:=zh (HK3.out.trans (Kp.of_below (b:=b) hb1 (by omega)));clear hws hb1 hbst HKn Hcell;try simp only [Act.put,zs1,zs3,zs2]
    go_wp2_with fail
    go_at_call 109;refine HWs.out.mono ?_;rintro e5 w5 ⟨rfl,hD5,hk5⟩;have HD5:=zh hD5;have HK9:=zh (HK4.out.trans hk5);clear hD5 hk5 HWs x1 x0;go_wp2_with fail
    go_roundw
    case measure=>show l.length - ((k:Int)+1).toNat < l.length - (k:Int).toNat;omega
    case rel=>exact ⟨k+1,by first | rfl | go_num,by omega,zh (HNx.out _ (by have:=HD5.out;rw [hone];simpa only [List.append_assoc,List.cons_append,List.nil_append] using this)),HK9⟩
   | @stopS _ op h =>
    rcases h with rfl | rfl
    ·have hone:=zhZ tabs;have hws:=zaT [115,116,111,112,59,10] HD3.out (by omega) (by have:=HPl.out;rw [hone] at this;simp only [yA,yB,yL] at this ⊢;omega);have HWs:=zh (show Calls Tryz.prog 109 #[.pointer (some ⟨b,0,none⟩),.string { data:=#[115,116,111,112,59,10] }] w3 _ from hws);clear hws;go_wp2_with fail
     go_at_call 109;refine HWs.out.mono ?_;rintro e5 w5 ⟨rfl,hD5,hk5⟩;have HD5:=zh hD5;have HK9:=zh (HK3.out.trans hk5);clear hD5 hk5 HWs x0;go_wp2_with fail
     go_roundw
     case measure=>show l.length - ((k:Int)+1).toNat < l.length - (k:Int).toNat;omega
     case rel=>exact ⟨k+1,by first | rfl | go_num,by omega,zh (HNx.out _ (by have:=HD5.out;rw [hone];simpa only [List.append_assoc,List.cons_append,List.nil_append] using this)),HK9⟩
    ·have hone:=zh0 tabs;have hws:=zaT [102,97,105,108,59,10] HD3.out (by omega) (by have:=HPl.out;rw [hone] at this;simp only [yA,yB,yL] at this ⊢;omega);have HWs:=zh (show Calls Tryz.prog 109 #[.pointer (some ⟨b,0,none⟩),.string { data:=#[102,97,105,108,59,10] }] w3 _ from hws);clear hws;go_wp2_with fail
     go_at_call 109;refine HWs.out.mono ?_;rintro e5 w5 ⟨rfl,hD5,hk5⟩;have HD5:=zh hD5;have HK9:=zh (HK3.out.trans hk5);clear hD5 hk5 HWs x0;go_wp2_with fail
     go_roundw
     case measure=>show l.length - ((k:Int)+1).toNat < l.length - (k:Int).toNat;omega
     case rel=>exact ⟨k+1,by first | rfl | go_num,by omega,zh (HNx.out _ (by have:=HD5.out;rw [hone];simpa only [List.append_assoc,List.cons_append,List.nil_append] using this)),HK9⟩
   | @whileS _ e body he hb =>
    have hone:=zgX tabs e body;unfold zaZ at hone;have HA0:Hid (∀ W,Below w3.heap.size w3 W->Calls Tryz.prog 110 #[.int .i64 0,.pointer (some ⟨gx,0,none⟩)] W (TxtE (zab e) W)):=zh (fun W hb=>zc4 (i:=0) (y:=e) HG.out hgB (HO3.out.below hb (zr _)) (HEs3.out.low (hb.mono (by omega))) (Hb3.out.trans (hb.mono (by omega))) (by have:=hb.size;omega) rfl he);obtain ⟨S0,hS0⟩:∃ S,bstr (zab e)=S:=⟨_,rfl⟩;have hln0:S0.size<=1000000000000000:=by rw [<- hS0,zaC,<- zaL];exact zaE he (by omega) _
    unfold TxtE at HA0;simp only [hS0] at HA0;have hbst:bstr ([119,104,105,108,101,32,40]++zab e++[41,32,123,10])=(({ data:=#[119,104,105,108,101,32,40] }:ByteArray)++S0)++{ data:=#[41,32,123,10] }:=by rw [<- hS0];simp [zax,zbV]
    go_wp2_with fail
    refine (HA0.out _ (yR _ _)).mono ?_;rintro e4 w4 ⟨rfl,hb4⟩;have hs4:=hb4.size;have hws:=zaT ([119,104,105,108,101,32,40]++zab e++[41,32,123,10]) (HD3.out.below hb4) (by omega) (by have:=HPl.out;rw [hone] at this;simp only [yA,yB,yL] at this ⊢;omega);rw [hbst] at hws;have HWs:=zh hws;have HK4:=zh (HK3.out.trans (Kp.of_below (b:=b) hb4 (by omega)));have HO4:=zh (HO3.out.below hb4 (zr _));have HBo4:=zh (HBo3.out.low (hb4.mono (by omega)));have Hb4:=zh (Hb3.out.trans (hb4.mono (by omega)));clear hws hb4 hbst HA0 x0;go_wp2_with fail
    go_at_call 109;refine HWs.out.mono ?_;rintro e5 w5 ⟨rfl,hD5,hk5⟩;have hs5:=hk5.size;have HK5:=zh (HK4.out.trans hk5);have HO5:=zh (hk5.own HO4.out (by omega) (by decide));have hln5:=HLn.out body hb _ w5 b _ (tabs++[9]) (Hb4.out.trans hk5.1) (by omega) (HBo4.out.low hk5.1) hD5 (by have:=Htb.out;rw [yA];show tabs.length+1+D<=100;omega) (by have:=HPl.out;rw [hone] at this;simp only [yA,yB,yL] at this ⊢;omega);rw [show bstr (tabs++[9])=bstr tabs++{ data:=#[9] } from (zax tabs [9]).symm] at hln5;have HLl:=zh hln5;have x4:=HO5.out.cell (i:=4) rfl;clear hD5 hk5 hln5 HWs HK4 HO4 Hb4 HBo4;go_wp2_with fail
    go_at_call 70;refine HLl.out.mono ?_;rintro e6 w6 ⟨rfl,hD6,hk6⟩;have hs6:=hk6.size;have HK6:=zh (HK5.out.trans hk6);have hws:=zaT (tabs++[125,10]) hD6 (by omega) (by have:=HPl.out;rw [hone] at this;simp only [yA,yB,yL] at this ⊢;omega);rw [show bstr (tabs++[125,10])=bstr tabs++{ data:=#[125,10] } from (zax tabs [125,10]).symm] at hws;have HWs:=zh hws;clear hD6 hk6 hws x4 HLl HK5 HO5;go_wp2_with fail
    go_at_call 109;refine HWs.out.mono ?_;rintro e7 w7 ⟨rfl,hD7,hk7⟩;have HD5:=zh hD7;have HK9:=zh (HK6.out.trans hk7);clear hD7 hk7 HWs;go_wp2_with fail
    go_roundw
    case measure=>show l.length - ((k:Int)+1).toNat < l.length - (k:Int).toNat;omega
    case rel=>exact ⟨k+1,by first | rfl | go_num,by omega,zh (HNx.out _ (by have:=HD5.out;rw [hone];simpa only [List.append_assoc,List.cons_append,List.nil_append] using this)),HK9⟩
   | @ifS _ e body els he hb hl =>
    have hbr:=hbx rfl 4 0 [] [e] body els _ _ _ w3 b _ tabs rfl Hb3.out (by omega) HEs3.out HBo3.out HEl3.out HD3.out Htb.out (by have:=HPl.out;simp only [yA] at this ⊢;omega);have HBr3:=zh hbr;have x1:=HO3.out.cell (i:=1) rfl;have x2:=HO3.out.cell (i:=2) rfl;have x3:=HO3.out.cell (i:=3) rfl;have x4:=HO3.out.cell (i:=4) rfl;have x5:=HO3.out.cell (i:=5) rfl;clear hbr hbx;go_wp2_with fail
    go_at_call 113;refine HBr3.out.mono ?_;rintro e5 w5 ⟨rfl,hD5,hk5⟩;have HD5:=zh hD5;have HK9:=zh (HK3.out.trans hk5);clear hD5 hk5 HBr3 x0 x1 x2 x3 x4 x5;go_wp2_with fail
    go_roundw
    case measure=>show l.length - ((k:Int)+1).toNat < l.length - (k:Int).toNat;omega
    case rel=>exact ⟨k+1,by first | rfl | go_num,by omega,zh (HNx.out _ (by have:=HD5.out;simpa only [List.append_assoc,List.cons_append,List.nil_append] using this)),HK9⟩
theorem zku {w0:World} {B:Nat} (hG:Glob w0) (hgB:glB<=B):∀ (d:Nat),(∀ l,(∀ s ∈ l,ShpT d s)->LnC w0 B (d+1) l)/\(∀ s,ShpT d s->opT s=4->BrC w0 B (d+1) s):=by
 intro d
 induction d with
 | zero =>
  have h0:∀ s,¬ ShpT 0 s:=fun s h=>by cases h
  refine ⟨fun l hl=>?_,fun s hs=>(h0 s hs).elim⟩
  have hn:l=[]:=by
   cases l with
   | nil=>rfl
   | cons x r=>exact (h0 x (hl x (by simp))).elim
  subst hn
  exact zgv (d:=0) (D:=0) hG hgB [] (fun s hs=>by cases hs) (fun h=>(h rfl).elim) (fun h=>(h rfl).elim)
 | succ d ih =>
  obtain ⟨ihl,ihb⟩:=ih
  have hb:∀ s,ShpT (d+1) s->opT s=4->BrC w0 B (d+1+1) s:=by
   intro s hs ho op n name es body els ve vb vl w b bs tabs e hb0 hB hE hBo hEl hbd htb hlen
   cases hs with
   | letS=>cases ho
   | setS=>cases ho
   | putS=>cases ho
   | stopS h=>rcases h with rfl | rfl <;> cases ho
   | whileS=>cases ho
   | @ifS _ e0 body0 els0 he hbd2 hl2 =>
    cases e
    match els,hl2,hEl,hlen with
    | [],_,hEl,hlen=>exact zhz hG hgB he hb0 hB hE hBo hEl hbd htb hlen (ihl body hbd2) rfl
    | [.mk o2 n2 nm2 es2 bo2 el2],hl2,hEl,hlen =>
     by_cases ho2:o2=4
     ·subst ho2;exact zjg hG hgB he hb0 hB hE hBo hEl hbd htb hlen (ihl body hbd2) rfl (ihb _ (hl2 _ (by simp)) rfl)
     ·exact zgP hG hgB he hb0 hB hE hBo hEl hbd htb hlen (ihl body hbd2) rfl ho2 (ihl _ hl2)
    | x :: y :: r,hl2,hEl,hlen=>exact zgQ hG hgB he hb0 hB hE hBo hEl hbd htb hlen (ihl body hbd2) (by simp) (ihl _ hl2)
  exact ⟨fun l hl=>zgv (d:=d) (D:=d+1) hG hgB l hl (fun _=>ihl) (fun _=>hb),hb⟩
theorem zde:∀ {d:Nat} {x:Ex},Shp d x->(zab x).length<=32 * szE x:=by
 intro d x h
 induction h with
 | @num d n h0 h1=>rw [zcq];have:=zjH h0 h1;simp only [szE,szEs];omega
 | @var d s h=>rw [zcr];have:=zcS (zbG h).1;simp only [szE,szEs];omega
 | @comp d n a h0 h1 _ ih=>rw [zdu];have:=zd7 h0 h1;simp only [szE,szEs,yA,yB,yL];omega
 | @leaf d op h =>
  rcases h with rfl | rfl
  ·rw [zep];simp only [szE,szEs,yB,yL];omega
  ·rw [zeq];simp only [szE,szEs,yB,yL];omega
 | @call d op a ho _ ih =>
  rcases ho with rfl | rfl
  ·rw [zdv];simp only [szE,szEs,yA,yB,yL];omega
  ·rw [zcN];simp only [szE,szEs,yA,yB,yL];omega
 | @pre d op a ho _ ih =>
  have:=zcL (zat a,zab a) 6;simp only at this;rcases ho with rfl | rfl
  ·rw [zcs];simp only [szE,szEs,yA,yB,yL];omega
  ·rw [zdm];simp only [szE,szEs,yA,yB,yL];omega
 | @bin d op a b h0 h1 _ _ iha ihb =>
  rw [zb0 h0 h1];have h2:=zcL (zat a,zab a) (zby (zar op));have h3:=zcL (zat b,zab b) (zar op+1);have h4:=(zeF h0 h1).1
  simp only [szE,szEs,yA,yB,yL] at *
  omega
 | @two d op a b ho _ _ iha ihb =>
  rcases ho with rfl | rfl
  ·rw [zdT];simp only [szE,szEs,yA,yB,yL];omega
  ·rw [zdU];simp only [szE,szEs,yA,yB,yL];omega
theorem zbL (M a b:Nat):M * (a+b)=M * a+M * b:=Nat.mul_add M a b
theorem zdI {M:Nat} (h:64<=M) (x:Nat):32 * x<=M * x:=Nat.mul_le_mul_right x (by omega)
theorem zeG {M:Nat} {tabs:List UInt8}:∀ (l:List St),(∀ s ∈ l,(oneW tabs s).length+tabs.length+1<=M * szS s)->(zaM tabs l).length<=M * szSs l:=by
 intro l
 induction l with
 | nil=>intro _;rw [zaM];exact Nat.zero_le _
 | cons x r ih =>
  intro h;have h1:=h x (by simp);have h2:=ih fun s hs=>h s (List.mem_cons_of_mem _ hs)
  rw [zaM];simp only [szSs,yA,yB,yL];rw [zbL];omega
theorem one_sz:∀ {d:Nat} {s:St},ShpT d s->∀ (M:Nat) (tabs:List UInt8),4 * (tabs.length+d)+64<=M->(oneW tabs s).length+tabs.length+1<=M * szS s:=by
 intro d s h
 induction h with
 | @letS d name e h he =>
  intro M tabs hM;rw [zju];have h1:=zde he;have h2:=zcS (zbG h).1;have h3:=zdI (M:=M) (by omega) (szE e);simp only [szS,szEs,szSs,yA,yB,yL,zbL,Nat.mul_one,Nat.mul_zero]
  omega
 | @setS d name e h he =>
  intro M tabs hM;rw [zjv];have h1:=zde he;have h2:=zcS (zbG h).1;have h3:=zdI (M:=M) (by omega) (szE e);simp only [szS,szEs,szSs,yA,yB,yL,zbL,Nat.mul_one,Nat.mul_zero]
  omega
 | @putS d n e e' h0 h1 he he' =>
  intro M tabs hM;rw [zjw];have g1:=zde he;have g2:=zde he';have g3:=zd7 h0 h1;have g4:=zdI (M:=M) (by omega) (szE e);have g5:=zdI (M:=M) (by omega) (szE e');simp only [szS,szEs,szSs,yA,yB,yL,zbL,Nat.mul_one,Nat.mul_zero]
  omega
 | @stopS d op h =>
  intro M tabs hM;rcases h with rfl | rfl
  ·rw [zhZ];simp only [szS,szEs,szSs,yB,yL,zbL,Nat.mul_one,Nat.mul_zero];omega
  ·rw [zh0];simp only [szS,szEs,szSs,yB,yL,zbL,Nat.mul_one,Nat.mul_zero];omega
 | @whileS d e body he hb ih =>
  intro M tabs hM;rw [zgX];unfold zaZ;have h1:=zde he;have h3:=zdI (M:=M) (by omega) (szE e);have h4:=zeG (M:=M) (tabs:=tabs++[9]) body fun s hs=>ih s hs M (tabs++[9]) (by rw [yA];simp only [yB,yL];omega)
  simp only [szS,szEs,szSs,yA,yB,yL,zbL,Nat.mul_one,Nat.mul_zero]
  omega
 | @ifS d e body els he hb hl ihb ihl =>
  intro M tabs hM;have h1:=zde he;have h3:=zdI (M:=M) (by omega) (szE e);have h4:=zeG (M:=M) (tabs:=tabs++[9]) body fun s hs=>ihb s hs M (tabs++[9]) (by rw [yA];simp only [yB,yL];omega)
  have h5:=zeG (M:=M) (tabs:=tabs++[9]) els fun s hs=>ihl s hs M (tabs++[9]) (by rw [yA];simp only [yB,yL];omega)
  match els,hl,ihl,h5 with
  | [],_,_,_ =>
   rw [zjx];unfold zaZ;simp only [szS,szEs,szSs,yA,yB,yL,zbL,Nat.mul_one,Nat.mul_zero]
   omega
  | x :: r,hl,ihl,h5 =>
   by_cases hx:zdM (x :: r)=true
   ·match x,r,hx,hl,ihl with
    | .mk o2 n2 nm2 es2 bo2 el2,[],hx,hl,ihl =>
     have ho2:opT (.mk o2 n2 nm2 es2 bo2 el2)=4:=(show o2=4 by simpa [zdM] using hx);rw [zjy tabs e body _ ho2];unfold zaZ;have h6:=ihl (.mk o2 n2 nm2 es2 bo2 el2) (by simp) M tabs (by omega)
     generalize hq:St.mk o2 n2 nm2 es2 bo2 el2=q at *
     simp only [szS,szEs,szSs,yA,yB,yL,zbL,Nat.mul_one,Nat.mul_zero];omega
   ·have hx2:zdM (x :: r)=false:=by simpa using hx
    rw [zgG tabs e body x r hx2];unfold zaZ;simp only [szSs] at h5;rw [zbL] at h5;simp only [szS,szEs,szSs,yA,yB,yL,zbL,Nat.mul_one,Nat.mul_zero];omega
theorem zmE {l:List St} (h:∀ s ∈ l,ShpT 40 s):(zaM [] l).length<=224 * szSs l:=zeG l fun s hs=>one_sz (h s hs) 224 [] (by simp)
def zhE (l : List St) : List UInt8 × Int := if zaJ 40 l = true then zdN (zaM [] l) else ([], 2)
theorem zmF {w:World} {B:Nat} {l:List St} {v:Value} (hG:Glob w) (hok:okSs l) (hL:SsL w B l v) (hB:B<=w.heap.size) (hsz:szSs l<=100000000000) :
  Calls Tryz.prog 28 #[v] w (zks (zhE l) w):=by
 have hLw:=hL.mono hB;have HPr:=zh (zem l v w B hok hL hB)
 have HLn:Hid (zaJ 40 l=true->∀ W b,Below w.heap.size w W->b=W.heap.size - 1->w.heap.size<=b->Bd W b b []->Calls Tryz.prog 70 #[.pointer (some ⟨b,0,none⟩),v,.string { data:=#[] }] W (LnE (zaM [] l) b b [] W)):=zh (fun hr W b hb _ hbg hbd=>by
  have hsh:=zk1 40 l hr hok;have hgb:=hG.size;have hbl:=hbd.lt;have hln:=zmE hsh;have hc:=(zku (w0:=W) (B:=b) (hG.below hb hgb) (by omega) 40).1 l hsh v W b [] [] (yR _ _) (by omega) ((hLw.low hb).mono hbg) hbd (by simp) (by simp only [yL];omega)
  exact hc)
 have hT:zhE l=if zaJ 40 l=true then zdN (zaM [] l) else ([],2):=rfl
 obtain ⟨va,vc,rfl,hvc1,hvc2⟩:=hL.form;clear hG hok hL hLw hsz
 generalize zaM [] l=T at *
 generalize zhE l=R at *
 generalize zaJ 40 l=q at *
 cases q with
 | false =>
  rw [yN (by decide)] at hT;have HT:=zh hT;clear hT HLn;go_enter Tryz.func28,Tryz.ntmps28
  go_wp2_with fail
  go_at_call 69;refine HPr.out.mono ?_;rintro e1 w1 ⟨rfl,hb1⟩;have Hb1:=zh hb1;clear hb1;go_wp2_with fail
  exact yE (v:=.tuple #[.string { data:=#[] },.int .i64 2]) (by simp [results,Tryz.results28,go_sem]) rfl ⟨by rw [HT.out];rfl,Hb1.out⟩
 | true =>
  rw [yP rfl] at hT;have HT:=zh hT;have HLn2:=zh (HLn.out rfl);clear hT HLn;go_enter Tryz.func28,Tryz.ntmps28
  go_wp2_with fail
  go_at_call 69;refine HPr.out.mono ?_;rintro e1 w1 ⟨rfl,hb1⟩;have hs1:=hb1.size;obtain ⟨W2,hW2,hb2,hbd2,hz2⟩:∃ W2,W2=w1.alloc (.cells #[.pointer none,.slice none 0 0] 129)/\Below w1.heap.size w1 W2/\Bd W2 w1.heap.size w1.heap.size []/\w1.heap.size=W2.heap.size - 1:=⟨_,rfl,(yR _ _).alloc (zr _) _,Lib.IsBuilderF.of (Lib.fresh_isBuilder _ _ w1),by simp⟩;have Hb2:=zh (hb1.trans (hb2.mono hs1));have HC:=zh (HLn2.out W2 w1.heap.size Hb2.out hz2 hs1 hbd2);have HW2:=zh hW2;have hs2:=hb2.size;clear hb1 hW2 hb2 hbd2 hz2 HLn2;go_upto_region 4 with (fail)
  rw [<- HW2.out];go_wp2_with fail
  go_at_call 70;refine HC.out.mono ?_;rintro e3 w3 ⟨rfl,hD3,hk3⟩;have hs3:=hk3.size;have hst:=Any.Builder_String_any_k Tryz.lays169 Tryz.Builder_Extra_169 w1.heap.size w1.heap.size T w3 (by have:=hD3;rw [List.nil_append] at this;exact this) (by omega);have HSt:=zh (show Calls Tryz.prog 72 #[.pointer (some ⟨w1.heap.size,0,none⟩)] w3 _ from hst);have Hb3:=zh (Hb2.out.trans (hk3.1.mono hs1));clear hD3 hk3 hst HC;go_wp2_with fail
  go_at_call 72;refine HSt.out.mono ?_;rintro e4 w4 ⟨rfl,-,hb4,-⟩;have Hb4:=zh (Hb3.out.trans (hb4.mono hs1));have HSh:=zh (zhe (bstr T) w4);rw [zaC] at HSh;clear hb4 HSt;have hsw:(zdN T)=(if 16384 < T.length then ([],3) else (T,0)):=rfl;by_cases hTl:16384 < T.length
  ·rw [yP hTl] at hsw;rw [yP hTl,yP hTl] at HSh;have Hsw:=zh hsw;clear hsw;go_wp2_with fail
   go_at_call 71;refine HSh.out.mono ?_;rintro e5 w5 ⟨rfl,rfl⟩;go_wp2_with fail
   exact yE (v:=.tuple #[.string { data:=#[] },.int .i64 3]) (by simp [results,Tryz.results28,go_sem]) rfl ⟨by rw [HT.out,Hsw.out];rfl,Hb4.out⟩
  ·rw [yN hTl] at hsw;rw [yN hTl,yN hTl] at HSh;have Hsw:=zh hsw;clear hsw;go_wp2_with fail
   go_at_call 71;refine HSh.out.mono ?_;rintro e5 w5 ⟨rfl,rfl⟩;go_wp2_with fail
   exact yE (v:=.tuple #[.string (bstr T),.int .i64 0]) (by simp [results,Tryz.results28,go_sem]) rfl ⟨by rw [HT.out,Hsw.out],Hb4.out⟩
end Go.Proofs.YtdhikpkecmaplaaGreatDoor

/- The layer patch: right, walked. -/
import Derived.Test.YtdhikpkecmaplaaGreatDoorPtFMk
import Derived.Test.YtdhikpkecmaplaaGreatDoorTransWMk
set_option linter.unusedSimpArgs false
set_option linter.unusedVariables false
set_option maxRecDepth 100000
set_option maxHeartbeats 4000000
namespace Go.Proofs.YtdhikpkecmaplaaGreatDoor
open Go.RowKit

theorem zqw (args:Array Value) (W:World):(callFunc 90 args).run Tryz.prog W=.ok (.enter 90 args) W:=(enters_of (P:=Tryz.prog) Tryz.func90 (by kernel_rfl) rfl) args W
theorem zqx (args:Array Value) (W:World):(callFunc 91 args).run Tryz.prog W=.ok (.enter 91 args) W:=(enters_of (P:=Tryz.prog) Tryz.func91 (by kernel_rfl) rfl) args W
theorem zr8 {E:Nat->Int} {x:Int} {j:Nat} (h:zqM E 2 x j):x=if E 0≠0 then E 0 else E 1:=by
 rcases h with ⟨rfl,rfl,h⟩ | ⟨i,rfl,h1,h2,rfl,h4⟩
 ·rw [h 0 (by omega),h 1 (by omega)];rfl
 ·match i,h1,h2,h4 with
  | 0,_,h2,_=>rw [yP h2]
  | 1,_,_,h4=>rw [h4 0 (by omega)];rfl
def scC (s : ScS) (vc : Value) : List Value := [vc, .int .i64 s.prog.locals, .int .u32 (w32 s.prog.reads), .int .u32 (w32 s.prog.writes), .int .i64 s.line, .int .i64 s.col, .int .i64 s.e]
theorem zsO {w:World} {g:Nat} {s:ScS} {vc:Value} (h:OwnV w g 105 (scC s vc)) :
  Calls Tryz.prog 90 #[.pointer (some ⟨g,0,none⟩)] w fun e w'=>e=.returned (.int .i64 s.e)/\Below w.heap.size w w':=by
 have x6:=h.cell (i:=6) rfl;have hl:=h.lt;clear h;go_enter Tryz.func90,Tryz.ntmps90
 go_wp2_with fail
 go_ret;exact ⟨rfl,yR _ _⟩
theorem zsP {w:World} {gb gs gn:Nat} {ys:List Sys} {s:ScS} {slot t:Int} {vs vc vp v:Value} (hb:OwnV w gb 26 [.int .i64 t,vs,vc,vp]) (h:OwnV w gs 105 (scC s v)) (hn:OwnV w gn 3 [.int .i64 slot]) (hS:Syss w ys vs) (h1:IsSl vc) (h2:IsSl vp) (h3:IsSl v) :
  Calls Tryz.prog 91 #[.pointer (some ⟨gb,0,none⟩),.pointer (some ⟨gs,0,none⟩),.pointer (some ⟨gn,0,none⟩)] w fun e w'=>e=.returned (.int .i64 (if zpb ys s.prog slot=false then 401 else 0))/\Below w.heap.size w w':=by
 have HF:=zh (zr6 (P:=s.prog) (slot:=slot) (t:=t) hS h1 h2 h3);obtain ⟨a,cap,rfl,hc1,hc2⟩:=hS.form;obtain ⟨a1,k1,cap1,rfl⟩:=h1;obtain ⟨a2,k2,cap2,rfl⟩:=h2;obtain ⟨a3,k3,cap3,rfl⟩:=h3;unfold zow at HF;obtain ⟨x0,x1,x2,x3⟩:=yc4 hb;obtain ⟨y0,y1,y2,y3⟩:=yc4 h;have z0:=hn.cell (i:=0) rfl;have l1:=hb.lt;have l2:=h.lt;have l3:=hn.lt
 generalize zpb ys s.prog slot=q at *
 clear hb h hn hS;cases q
 all_goals
  go_enter Tryz.func91,Tryz.ntmps91
  go_wp2_with fail
  go_at_call 92;refine HF.out.mono ?_;rintro e1 w1 ⟨rfl,hb1⟩;have Hb1:=zh hb1;clear hb1 x0 x1 x2 x3 y0 y1 y2 y3 z0;go_wp2_with fail
  go_at_call 46;refine (zog _ 401 w1).mono ?_;rintro e2 w2 ⟨rfl,rfl⟩;go_wp2_with fail
  go_ret;exact ⟨rfl,Hb1.out⟩
theorem zpr {w:World} {ys:List Sys} {slot t:Int} {vs vc vp:Value} {bm n m B:Nat} (hG:Glob w) (hP:Prs w bm n m) (hm:m<=w.heap.size) (hn:n<=100000) (hS:Syss w ys vs) (hlow:Low B ys.length vs) (hB:B<=bm) (h1:IsSl vc) (h2:IsSl vp) (s:ByteArray) (hs:s.size<=9223372036854775807) :
  Calls Tryz.prog 51 #[.agg #[.int .i64 t,vs,vc,vp],.agg #[.map (some bm)],.int .i64 slot,.string s] w fun e w'=>e=.returned (.int .i64 (errE ys slot s.data.toList))/\Prs w' bm (n+1) m/\Only (fun g=>g=bm) w w':=by
 obtain ⟨a,cap,rfl,hc1,hc2⟩:=hS.form;obtain ⟨a1,k1,cap1,rfl⟩:=h1;obtain ⟨a2,k2,cap2,rfl⟩:=h2;have hbm:=hP.lt;obtain ⟨W0,hW0,hb0,hX,hY,hZ,hs0⟩:=zpH w [.int .i64 t,.slice a ys.length cap,.slice a1 k1 cap1,.slice a2 k2 cap2] [.map (some bm)] [.int .i64 slot] 26 99 3;have HO:=zh (zqK (hG.below hb0 hG.size) (hP.below hb0) (by omega) hn s hs);have he:errE ys slot s.data.toList=if (znC s.data.toList).e≠0 then (znC s.data.toList).e else if zpb ys (znC s.data.toList).prog slot=false then 401 else 0:=rfl
 generalize errE ys slot s.data.toList=E at he ⊢
 generalize znC s.data.toList=S at *
 have He:=zh he;have HS:Hid (Syss w ys (.slice a ys.length cap)):=zh hS;have Hlow:=zh hlow;have x0:=hY.cell (i:=0) rfl;have HX:=zh hX;have HZ:=zh hZ;have HW0:=zh hW0;have Hb0:=zh hb0;clear he hS hlow hX hY hZ hW0 hb0 hP hG;have hmf:=zmf Tryz.prog
 go_enter Tryz.func51,Tryz.ntmps51
 go_upto_region 1 with (fail)
 rw [<- HW0.out];go_wp2_with fail
 go_at_call 50;refine HO.out.mono ?_;rintro e1 w1 ⟨⟨v,rfl,hC⟩,hP1,ho1⟩;obtain ⟨a3,cap3,rfl,-,-⟩:=Sl.form hC.1;obtain ⟨⟨code,loc,rd,wr⟩,line,col,er⟩:=S;unfold scV
 simp only at *
 have hs1:=ho1.size;have Ho1:Hid (Only (fun g=>g=bm) w w1):=zh ((Only.of_below Hb0.out).trans (ho1.mono fun _ _ h=>h));have HX1:=zh (ho1.own HX.out (by omega));have HZ1:=zh (ho1.own HZ.out (by omega));have HS1:Hid (Syss w1 ys (.slice a ys.length cap)):=zh (Sl.lowBelow HS.out Hlow.out (Ho1.out.below (fun k h=>by omega) (by omega)))
 obtain ⟨W2,hW2,hb2,hQ,hR,hs2⟩:∃ W2,W2=(w1.alloc (.cells #[.slice a3 code.length cap3,.int .i64 loc,.int .u32 (w32 rd),.int .u32 (w32 wr),.int .i64 line,.int .i64 col,.int .i64 er] 105)).alloc (.cells #[.func (.func 90) #[] #[.pointer (some ⟨w1.heap.size,0,none⟩)],.func (.func 91) #[] #[.pointer (some ⟨w.heap.size,0,none⟩),.pointer (some ⟨w1.heap.size,0,none⟩),.pointer (some ⟨w.heap.size+2,0,none⟩)]] 103)/\Below w1.heap.size w1 W2/\OwnV W2 w1.heap.size 105 (scC ⟨⟨code,loc,rd,wr⟩,line,col,er⟩ (.slice a3 code.length cap3))/\OwnV W2 (w1.heap.size+1) 103 [.func (.func 90) #[] #[.pointer (some ⟨w1.heap.size,0,none⟩)],.func (.func 91) #[] #[.pointer (some ⟨w.heap.size,0,none⟩),.pointer (some ⟨w1.heap.size,0,none⟩),.pointer (some ⟨w.heap.size+2,0,none⟩)]]/\W2.heap.size=w1.heap.size+2:=
  ⟨_,rfl,((yR _ _).alloc (zr _) _).alloc (by simp) _,(OwnV.new _ _ _).alloc _,OwnV.newAt (by simp) _ _,by simp⟩
 have HFi:=zh (zqk (w:=W2) (g:=w1.heap.size+1) (cap:=2) (E:=fun i=>if i=0 then er else if zpb ys ⟨code,loc,rd,wr⟩ slot=false then 401 else 0) (Inv:=fun _ W=>Below W2.heap.size W2 W) (yR _ _) (fun i W hb=>hR.below hb (zr _)) rfl (by simp)
  (fun i W v hb hv=>by
   match i,hv with
   | 0,hv =>
    cases hv
    exact ⟨_,_,rfl,zqw _,(zsO (hQ.below hb (zr _))).mono fun e w' h=>⟨h.1,hb.trans (h.2.mono hb.size)⟩⟩
   | 1,hv =>
    cases hv
    exact ⟨_,_,rfl,zqx _,(zsP ((HX1.out.below hb2 (zr _)).below hb (zr _)) (hQ.below hb (zr _)) ((HZ1.out.below hb2 (zr _)).below hb (zr _)) ((HS1.out.below hb2 (zr _)).below hb (zr _)) ⟨_,_,_,rfl⟩ ⟨_,_,_,rfl⟩ ⟨_,_,_,rfl⟩).mono fun e w' h=>⟨h.1,hb.trans (h.2.mono hb.size)⟩⟩))
 have HW2:=zh hW2;have HP2:=zh (hP1.below hb2);have Ho2:=zh (Ho1.out.trans (Only.of_below hb2));clear hW2 hb2 hQ hR hP1 ho1 hC;go_wp2_with fail
 go_at_call 44;rw [<- HW2.out];refine HFi.out.mono ?_;rintro e3 w3 ⟨x,j,rfl,hfe,hb3⟩;have Hfe:=zh hfe;have Hb3:=zh hb3;clear hfe hb3;go_wp2_with fail
 go_ret;refine ⟨?_,(HP2.out.below Hb3.out).mono (by omega),Ho2.out.trans (Only.of_below Hb3.out)⟩;rw [He.out,zr8 Hfe.out];rfl

theorem Pts.take {w:World} {l:List Pt} {a:Option Addr} {cap:Nat} (h:Pts w l (.slice a l.length cap)) {k:Nat} (hk:k<=l.length):Pts w (l.take k) (.slice a k cap):=by
 obtain ⟨a',cap',e,h2,h3,h4,h5⟩:=h;cases e;have hlen:(l.take k).length=k:=by rw [List.length_take];omega
 refine ⟨a,cap,by rw [hlen],by omega,h3,znR _,fun hn=>?_⟩;obtain ⟨b,off,rfl,hc⟩:=h5 (by omega);refine ⟨b,off,rfl,fun j hj=>?_⟩;rw [hlen] at hj;rw [hc j (by omega)];have e:znD l=znD (l.take k)++znD (l.drop k):=by rw [<- zox,List.take_append_drop]
 rw [e,List.getElem?_append_left (by rw [znR,hlen];omega)]
theorem zql (mx:Int) (n:Nat) (R:Int->List UInt8->Bool) (last:Int) (before:List Pt) (x:Pt) (r:List Pt):zn7 mx n R last before (x :: r)=((decide (last<=x.tick) && decide (x.tick<=mx) && decide (0<=x.slot) && decide (x.slot < n) && R x.slot x.src && !(before.any fun y=>y.same x)) && zn7 mx n R x.tick (before++[x]) r):=rfl
theorem zo4 {mx:Int} {n:Nat} {R:Int->List UInt8->Bool} {last:Int} {before:List Pt} {x:Pt} {r:List Pt} (h:x.tick < last∨mx < x.tick∨x.slot < 0∨(n:Int)<=x.slot∨R x.slot x.src=false∨(before.any fun y=>y.same x)=true):zn7 mx n R last before (x :: r)=false:=by
 rw [<- Bool.not_eq_true,zql];simp only [yC,yQ,Bool.not_eq_true'];rintro ⟨⟨⟨⟨⟨⟨h1,h2⟩,h3⟩,h4⟩,h5⟩,h6⟩,-⟩;rcases h with h | h | h | h | h | h
 ·omega
 ·omega
 ·omega
 ·omega
 ·rw [h] at h5;cases h5
 ·rw [h] at h6;cases h6
theorem zsQ {mx:Int} {n:Nat} {R:Int->List UInt8->Bool} {last:Int} {before:List Pt} {x:Pt} {r:List Pt} (h1:last<=x.tick) (h2:x.tick<=mx) (h3:0<=x.slot) (h4:x.slot < n) (h5:R x.slot x.src=true) (h6:(before.any fun y=>y.same x)=false):zn7 mx n R last before (x :: r)=zn7 mx n R x.tick (before++[x]) r:=by
 rw [zql,h5,h6,show decide (last<=x.tick)=true by simpa using h1,show decide (x.tick<=mx)=true by simpa using h2,show decide (0<=x.slot)=true by simpa using h3,show decide (x.slot < n)=true by simpa using h4];rfl
theorem zoF {base:Nat->Bool} {R:Int->List UInt8->Bool} {b:Bk} (h:b.tick < 0∨1073741824 < b.tick∨base b.scr.length=false∨16 < b.scr.length∨32 < b.pend.length):znM base R b=false:=by
 rw [<- Bool.not_eq_true,valid_iff];intro hv;have h1:=hv.lo;have h2:=hv.hi;have h3:=hv.sys;have h4:=hv.many;have h5:=hv.room;rcases h with h | h | h | h | h
 ·omega
 ·omega
 ·rw [h] at h3;cases h3
 ·omega
 ·omega
theorem zsR {base:Nat->Bool} {R:Int->List UInt8->Bool} {b:Bk} (h0:¬ b.tick < 0) (h1:¬ 1073741824 < b.tick) (h2:base b.scr.length=true) (h3:¬ 16 < b.scr.length) (h4:¬ 32 < b.pend.length):znM base R b=(zoN R 0 b.scr && zn7 1073741824 b.scr.length R (b.tick+1) [] b.pend):=by
 unfold znM;rw [h2,show decide (0<=b.tick)=true by simp;omega,show decide (b.tick<=1073741824)=true by simp;omega,show decide (b.scr.length<=16)=true by simp;omega,show decide (b.pend.length<=32)=true by simp;omega];simp
theorem ztD (ys:List Sys) (n:Nat) (h:zop ys=false):znI ys n=false:=by unfold znI;rw [h];rfl
theorem ztE (ys:List Sys) (n:Nat) (h:zop ys=true):znI ys n = !(ys.any fun y=>decide ((n:Int)<=y.pg)):=by unfold znI;rw [h];rfl
theorem zqb (w:World) (X Y:List Value) (tX tY:TypeId):∃ W0,W0=(w.alloc (.cells X.toArray tX)).alloc (.cells Y.toArray tY)/\Below w.heap.size w W0/\OwnV W0 w.heap.size tX X/\OwnV W0 (w.heap.size+1) tY Y/\W0.heap.size=w.heap.size+2:=
 ⟨_,rfl,((yR _ _).alloc (zr _) _).alloc (by simp) _,(OwnV.new _ _ _).alloc _,OwnV.newAt (by simp) _ _,by simp⟩
theorem box1 (w:World) (X:List Value) (tX:TypeId):∃ W0,W0=w.alloc (.cells X.toArray tX)/\Below w.heap.size w W0/\OwnV W0 w.heap.size tX X/\W0.heap.size=w.heap.size+1:=
 ⟨_,rfl,(yR _ _).alloc (zr _) _,OwnV.new _ _ _,by simp⟩
structure VIn (B : Nat) (w0 w : World) (ys : List Sys) (b : Bk) (vs vc vp : Value) (bm n m gb gp : Nat) : Prop where
  only : Only (fun g => g = bm) w0 w
  glob : Glob w
  prs : Prs w bm n m
  mle : m <= w.heap.size
  bk : BkIn B w ys b vs vc vp
  box : OwnV w gb 26 [.int .i64 b.tick, vs, vc, vp]
  pbox : OwnV w gp 99 [.map (some bm)]
theorem VIn.step {B:Nat} {w0 w w':World} {ys:List Sys} {b:Bk} {vs vc vp:Value} {bm n m gb gp k:Nat} (h:VIn B w0 w ys b vs vc vp bm n m gb gp) (hB:B<=bm) (hm:m<=w0.heap.size) (hgl:glB<=bm) (h1:gb≠bm) (h2:gp≠bm) (ho:Only (fun g=>g=bm) w w') (hp:Prs w' bm k m):VIn B w0 w' ys b vs vc vp bm k m gb gp:=
 ⟨h.only.trans ho,h.glob.only ho (fun k e=>by subst e;exact hgl),hp,yT h.mle ho.size,h.bk.below (ho.below (fun k e=>by subst e;exact hB) (by have:=h.prs.lt;omega)),ho.own h.box h1,ho.own h.pbox h2⟩
theorem zpl (l:List UInt8):(bstr l).size=l.length:=by simp [bstr,ByteArray.size]
theorem zoI (l:List UInt8):(bstr l).data.toList=l:=by simp [bstr]
theorem VIn.mono {B:Nat} {w0 w:World} {ys:List Sys} {b:Bk} {vs vc vp:Value} {bm n m gb gp k:Nat} (h:VIn B w0 w ys b vs vc vp bm n m gb gp) (hk:n<=k):VIn B w0 w ys b vs vc vp bm k m gb gp:=
 ⟨h.only,h.glob,h.prs.mono hk,h.mle,h.bk,h.box,h.pbox⟩
theorem VIn.below {B:Nat} {w0 w w':World} {ys:List Sys} {b:Bk} {vs vc vp:Value} {bm n m gb gp:Nat} (h:VIn B w0 w ys b vs vc vp bm n m gb gp) (hb:Below w.heap.size w w') (hB:B<=w.heap.size):VIn B w0 w' ys b vs vc vp bm n m gb gp:=
 ⟨h.only.trans (Only.of_below hb),h.glob.below hb h.glob.size,h.prs.below hb,yT h.mle hb.size,h.bk.below (hb.mono hB),h.box.below hb (zr _),h.pbox.below hb (zr _)⟩
theorem zps {w:World} {ys:List Sys} {b:Bk} {vs vc vp:Value} {bm n m B:Nat} (hG:Glob w) (hOk:BkOk ys b) (hB:BkIn B w ys b vs vc vp) (hBm:B<=bm) (hgl:glB<=bm) (hP:Prs w bm n m) (hm:m<=w.heap.size) (hn:n<=10000) :
  Calls Tryz.prog 42 #[bkV b vs vc vp,.agg #[.map (some bm)]] w fun e w'=>e=.returned (.bool (znM (znI ys) (rOf (errE ys)) b))/\Prs w' bm (n+48) m/\Only (fun g=>g=bm) w w':=by
 obtain ⟨ay,cs,rfl,hcs1,hcs2⟩:=hB.sys.form;obtain ⟨ac,cc,rfl,hcc1,hcc2⟩:=hB.scr.form;obtain ⟨ap,cp,rfl,hcp1,hcp2⟩:=hB.pend.form;have hbm:=hP.lt;obtain ⟨W0,hW0,hb0,hX,hY,hs0⟩:=zqb w [.int .i64 b.tick,.slice ay ys.length cs,.slice ac b.scr.length cc,.slice ap b.pend.length cp] [.map (some bm)] 26 99
 have hV:VIn B w W0 ys b (.slice ay ys.length cs) (.slice ac b.scr.length cc) (.slice ap b.pend.length cp) bm n m w.heap.size (w.heap.size+1):=
  ⟨Only.of_below hb0,hG.below hb0 hG.size,hP.below hb0,by omega,hB.below (hb0.mono (by omega)),hX,hY⟩
 obtain ⟨t,scr,pend⟩:=b;unfold bkV
 simp only at *
 have HF:Hid (∀ W',Below w.heap.size w W'->Prs W' bm (n+48) m/\Only (fun g=>g=bm) w W'):=zh (fun W' hb=>⟨(hP.below hb).mono (by omega),Only.of_below hb⟩);have HV:=zh hV;have Hb0:=zh hb0;have HW0:=zh hW0;have HO:=zh hOk;obtain ⟨x0,x1,x2,x3⟩:=yc4 hX;have HVa:=zh (zsv ys _ W0 hV.bk.sys hOk.sys);clear hV hX hY hb0 hW0 hB hP hG hOk;obtain ⟨final,hfin⟩:∃ r,znM (znI ys) (rOf (errE ys)) ⟨t,scr,pend⟩=r:=⟨_,rfl⟩;have Hfin:=zh hfin;rw [hfin];clear hfin;by_cases ht:t < 0
 ·have Hno:Hid (final=false):=zh (by rw [<- Hfin.out];exact zoF (.inl ht));clear Hfin;go_enter Tryz.func42,Tryz.ntmps42
  go_upto_region 1 with (fail)
  rw [<- HW0.out];go_wp2_with fail
  go_ret;exact ⟨retb Hno.out.symm,HF.out _ Hb0.out⟩
 by_cases ht2:t > 1073741824
 ·have Hno:Hid (final=false):=zh (by rw [<- Hfin.out];exact zoF (.inr (.inl ht2)));clear Hfin;go_enter Tryz.func42,Tryz.ntmps42
  go_upto_region 1 with (fail)
  rw [<- HW0.out];go_wp2_with fail
  go_ret;exact ⟨retb Hno.out.symm,HF.out _ Hb0.out⟩
 obtain ⟨q,hq⟩:∃ q,zop ys=q:=⟨_,rfl⟩;rw [hq] at HVa
 cases q with
 | false =>
  have Hno:Hid (final=false):=zh (by rw [<- Hfin.out];exact zoF (.inr (.inr (.inl (ztD _ _ hq)))));clear Hfin;go_enter Tryz.func42,Tryz.ntmps42
  go_upto_region 1 with (fail)
  rw [<- HW0.out];go_wp2_with fail
  go_at_call 64;refine HVa.out.mono ?_;rintro e1 w1 ⟨rfl,hb1⟩;have Hb1:=zh (Hb0.out.trans (hb1.mono (by omega)));have HV1:=zh (HV.out.below hb1 (by omega));have hs1:=hb1.size;have x1:=HV1.out.box.cell (i:=1) rfl;have x2:=HV1.out.box.cell (i:=2) rfl;have x3:=HV1.out.box.cell (i:=3) rfl;clear hb1 HVa;go_wp2_with fail
  go_ret
  exact ⟨retb Hno.out.symm,HF.out _ Hb1.out⟩
 | true =>
  by_cases hl:16 < scr.length
  ·have hl2:(16:Int) < (scr.length:Int):=by omega
   have Hno:Hid (final=false):=zh (by rw [<- Hfin.out];exact zoF (.inr (.inr (.inr (.inl hl)))));clear Hfin;go_enter Tryz.func42,Tryz.ntmps42
   go_upto_region 1 with (fail)
   rw [<- HW0.out];go_wp2_with fail
   go_at_call 64;refine HVa.out.mono ?_;rintro e1 w1 ⟨rfl,hb1⟩;have Hb1:=zh (Hb0.out.trans (hb1.mono (by omega)));have HV1:=zh (HV.out.below hb1 (by omega));have hs1:=hb1.size;have x1:=HV1.out.box.cell (i:=1) rfl;have x2:=HV1.out.box.cell (i:=2) rfl;have x3:=HV1.out.box.cell (i:=3) rfl;clear hb1 HVa;go_wp2_with fail
   go_ret;exact ⟨retb Hno.out.symm,HF.out _ Hb1.out⟩
  by_cases hp:32 < pend.length
  ·have hl2:¬ (16:Int) < (scr.length:Int):=by omega
   have hp2:(32:Int) < (pend.length:Int):=by omega
   have Hno:Hid (final=false):=zh (by rw [<- Hfin.out];exact zoF (.inr (.inr (.inr (.inr hp)))));clear Hfin;go_enter Tryz.func42,Tryz.ntmps42
   go_upto_region 1 with (fail)
   rw [<- HW0.out];go_wp2_with fail
   go_at_call 64;refine HVa.out.mono ?_;rintro e1 w1 ⟨rfl,hb1⟩;have Hb1:=zh (Hb0.out.trans (hb1.mono (by omega)));have HV1:=zh (HV.out.below hb1 (by omega));have hs1:=hb1.size;have x1:=HV1.out.box.cell (i:=1) rfl;have x2:=HV1.out.box.cell (i:=2) rfl;have x3:=HV1.out.box.cell (i:=3) rfl;clear hb1 HVa;go_wp2_with fail
   go_ret;exact ⟨retb Hno.out.symm,HF.out _ Hb1.out⟩
  have hl2:¬ (16:Int) < (scr.length:Int):=by omega
  have hp2:¬ (32:Int) < (pend.length:Int):=by omega
  have Hbase:=zh (ztE ys scr.length hq);have hmf:=zmf Tryz.prog
  clear hq;go_enter Tryz.func42,Tryz.ntmps42
  go_upto_region 1 with (fail)
  rw [<- HW0.out];go_wp2_with fail
  go_at_call 64;refine HVa.out.mono ?_;rintro e1 w1 ⟨rfl,hb1⟩;have Hb1:=zh (Hb0.out.trans (hb1.mono (by omega)));have HV1:=zh (HV.out.below hb1 (by omega));have hs1:=hb1.size;have x1:=HV1.out.box.cell (i:=1) rfl;have x2:=HV1.out.box.cell (i:=2) rfl;have x3:=HV1.out.box.cell (i:=3) rfl;clear hb1 HVa;have HCs:=zh (zq6 ys _ (fun y=>decide ((scr.length:Int)<=y.pg)) (.pointer (some ⟨w.heap.size,0,none⟩)) w1 B HV1.out.bk.sys HV1.out.bk.l1 (by omega) (fun k hk W hb=>zrz _ (HV1.out.box.below hb (zr _))));generalize (ys.any fun y=>decide ((scr.length:Int)<=y.pg))=q at HCs Hbase;go_upto_region 3 with (fail)
  go_wp2_with fail
  go_at_call 86;refine HCs.out.mono ?_;rintro e2 w2 ⟨rfl,hb2⟩;have Hb2:=zh (Hb1.out.trans (hb2.mono (by omega)));have HV2:=zh (HV1.out.below hb2 (by omega));have hs2:=hb2.size;clear hb2 HCs HV1 x1 x2 x3 HV
  cases q with
  | true =>
   have Hno:Hid (final=false):=zh (by rw [<- Hfin.out];exact zoF (.inr (.inr (.inl Hbase.out))));clear Hfin;go_wp2_with fail
   go_ret
   exact ⟨retb Hno.out.symm,HF.out _ Hb2.out⟩
  | false =>
   have Hf2:Hid (final=(zoN (rOf (errE ys)) 0 scr && zn7 1073741824 scr.length (rOf (errE ys)) (t+1) [] pend)):=zh (by rw [<- Hfin.out];exact zsR (show ¬ t < 0 by omega) (show ¬ 1073741824 < t by omega) Hbase.out hl hp);have hwr:IntKind.i64.wrap (t+1)=t+1:=IntWalk.i64_in _ (by omega);clear Hfin Hbase Hb1 HF;have x2:=HV2.out.box.cell (i:=2) rfl;go_upto_region 6 with (fail)
   clear x2;go_loopw [4,5,6,44,45,46,47,48,49,50,51,52,53,54,55] (fun _ _ _ t44 _ _ _ _ _ _ _ _ _ _ _ wr=>∃ k:Nat,k<=scr.length/\t44=.int .i64 k/\Hid (VIn B w wr ys ⟨t,scr,pend⟩ (.slice ay ys.length cs) (.slice ac scr.length cc) (.slice ap pend.length cp) bm (n+k) m w.heap.size (w.heap.size+1))/\Hid (zoN (rOf (errE ys)) 0 scr=zoN (rOf (errE ys)) k (scr.drop k))) (fun _ _ _ t44 _ _ _ _ _ _ _ _ _ _ _ _=>scr.length - (intOf t44).toNat)
   case atStart=>exact ⟨0,by omega,by first | rfl | go_num,HV2,zh rfl⟩
   case round =>
    obtain ⟨k,hk,rfl,HVr,HS⟩:=hrel;by_cases hkl:k < scr.length
    ·have hki:(k:Int) < (scr.length:Int):=by omega
     obtain ⟨bs,offs,rfl,hbw,hc⟩:=HVr.out.bk.scr.here (Nat.zero_lt_of_lt hkl);have c0:wr.cell? ⟨bs,offs+k,none⟩=some (.string (bstr scr[k])):=hc k hkl;have y0:wr.cell? ⟨w.heap.size,0,none⟩=some (.int .i64 t):=HVr.out.box.cell (i:=0) rfl;have y1:=HVr.out.box.cell (i:=1) rfl;have y2:=HVr.out.box.cell (i:=2) rfl;have y3:=HVr.out.box.cell (i:=3) rfl;have p0:=HVr.out.pbox.cell (i:=0) rfl;have HR:=zh (zpr (slot:=(k:Int)) (t:=t) HVr.out.glob HVr.out.prs HVr.out.mle (by omega) HVr.out.bk.sys HVr.out.bk.l1 hBm (Sl.isSl HVr.out.bk.scr) (Sl.isSl HVr.out.bk.pend) (bstr scr[k]) (by rw [zpl];exact HO.out.scr _ (List.getElem_mem hkl)));rw [zoI] at HR;have HSd:=zh (List.drop_eq_getElem_cons hkl);obtain ⟨E,hE⟩:∃ E,errE ys k scr[k]=E:=⟨_,rfl⟩;have HE:=zh hE;rw [hE] at HR;clear hc hE hbw;go_wp2_with fail
     go_at_call 51;refine HR.out.mono ?_;rintro e3 w3 ⟨rfl,hp3,ho3⟩;have HV3:=zh (HVr.out.step hBm hm hgl (by omega) (by omega) ho3 hp3);clear hp3 ho3 y0 y1 y2 y3 p0 c0 HVr HR;by_cases hz:E=0
     ·have hSt:Hid (zoN (rOf (errE ys)) 0 scr=zoN (rOf (errE ys)) (k+1) (scr.drop (k+1))):=zh (by
       rw [HS.out,HSd.out];show (rOf (errE ys) k scr[k] && _)=_;unfold rOf;rw [HE.out,hz]
       rfl)
      subst hz;clear HE HS HSd;go_wp2_with fail
      go_roundw
      case rel=>exact ⟨k+1,by omega,by go_num,HV3,hSt⟩
      case measure=>simp [intOf];omega
     ·have Hno:Hid (final=false):=zh (by
       rw [Hf2.out,HS.out,HSd.out];show ((rOf (errE ys) k scr[k] && _) && _)=false;unfold rOf;rw [HE.out,show (E == 0)=false by simpa using hz]
       rfl)
      have hz2:(E != 0)=true:=by simpa using hz
      clear HE HS HSd Hf2 hz;go_wp2_with fail
      go_ret;exact ⟨retb Hno.out.symm,HV3.out.prs.mono (by omega),HV3.out.only⟩
    ·have hki:¬ (k:Int) < (scr.length:Int):=by omega
     obtain rfl:k=scr.length:=by omega
     have Hf3:Hid (final=zn7 1073741824 scr.length (rOf (errE ys)) (t+1) [] pend):=zh (by rw [Hf2.out,HS.out,List.drop_length];rfl);have HV4:=zh (HVr.out.mono (k:=n+16) (by omega));have y0:wr.cell? ⟨w.heap.size,0,none⟩=some (.int .i64 t):=HVr.out.box.cell (i:=0) rfl;have y3:=HVr.out.box.cell (i:=3) rfl;clear Hf2 HS HVr HV2 Hb2;go_upto_region 13 with (fail)
     clear y0 y3;go_loopw [4,7,8,9,10,62,63,64,65,66,67,68,69,70,71,72,73,74,75,76,77,78,79,80,81,82,83,84,85,86,87,88,89,90,91,92,93,94,95,96,97,98,99,100,101,102,103,104,105,106,107,108,109,110] (fun _ t7 _ _ _ t62 _ _ _ _ _ _ _ _ _ _ _ _ _ _ _ _ _ _ _ _ _ _ _ _ _ _ _ _ _ _ _ _ _ _ _ _ _ _ _ _ _ _ _ _ _ _ _ _ wr=>∃ (k:Nat) (last:Int),k<=pend.length/\t62=.int .i64 k/\t7=.int .i64 last/\Hid (VIn B w wr ys ⟨t,scr,pend⟩ (.slice ay ys.length cs) (.slice ac scr.length cc) (.slice ap pend.length cp) bm (n+16+k) m w.heap.size (w.heap.size+1))/\Hid (final=zn7 1073741824 scr.length (rOf (errE ys)) last (pend.take k) (pend.drop k))) (fun _ _ _ _ _ t62 _ _ _ _ _ _ _ _ _ _ _ _ _ _ _ _ _ _ _ _ _ _ _ _ _ _ _ _ _ _ _ _ _ _ _ _ _ _ _ _ _ _ _ _ _ _ _ _ _=>pend.length - (intOf t62).toNat)
     case atStart=>exact ⟨0,t+1,by omega,by first | rfl | go_num,by first | rfl | go_num,HV4,zh (by rw [List.take_zero,List.drop_zero];exact Hf3.out)⟩
     case round =>
      obtain ⟨k,last,hk,rfl,rfl,HVr,HS⟩:=hrel;by_cases hkl:k < pend.length
      ·have hki:(k:Int) < (pend.length:Int):=by omega
       obtain ⟨bs,offs,rfl,hbw,hc⟩:=HVr.out.bk.pend.at (Nat.zero_lt_of_lt hkl);obtain ⟨c0,c1,c2⟩:=hc k hkl;have HSd:=zh (List.drop_eq_getElem_cons hkl);have HT:=zh (List.take_succ_eq_append_getElem hkl);have HOx:=zh (HO.out.pend _ (List.getElem_mem hkl));have hbr:=HVr.out.prs.lt;simp only at c0 c1 c2 HSd HT HOx;obtain ⟨x,hx⟩:∃ x,pend[k]=x:=⟨_,rfl⟩;rw [hx] at c0 c1 c2 HSd HT HOx;obtain ⟨xt,xs,xsrc⟩:=x;obtain ⟨W5,hW5,hb5,hX5,hs5⟩:=box1 wr [.int .i64 xt,.int .i64 xs,.string (bstr xsrc)] 32;have HV5:=zh (HVr.out.below hb5 (by omega));have HX5:=zh hX5;have HW5:=zh hW5;have HVn:Hid (∀ W',Below W5.heap.size W5 W'->Prs W' bm (n+48) m/\Only (fun g=>g=bm) w W'):=zh (fun W' hb=>⟨(HV5.out.prs.below hb).mono (by omega),HV5.out.only.trans (Only.of_below hb)⟩);clear hc hx hW5 hb5 hX5 hbw HVr;go_upto_region 15 with (fail)
       rw [<- HW5.out];clear c0 c1 c2;have y0:W5.cell? ⟨w.heap.size,0,none⟩=some (.int .i64 t):=HV5.out.box.cell (i:=0) rfl;have y1:=HV5.out.box.cell (i:=1) rfl;have y2:=HV5.out.box.cell (i:=2) rfl;have y3:=HV5.out.box.cell (i:=3) rfl;have p0:=HV5.out.pbox.cell (i:=0) rfl;obtain ⟨x0,x1,x2⟩:=yc3 HX5.out;by_cases h1:xt < last
       ·have Hno:Hid (final=false):=zh (by rw [HS.out,HSd.out];exact zo4 (.inl h1));clear HS HSd HT Hf3;go_wp2_with fail
        go_ret;exact ⟨retb Hno.out.symm,HVn.out _ (yR _ _)⟩
       by_cases h2:xt > 1073741824
       ·have Hno:Hid (final=false):=zh (by rw [HS.out,HSd.out];exact zo4 (.inr (.inl h2)));clear HS HSd HT Hf3;go_wp2_with fail
        go_ret;exact ⟨retb Hno.out.symm,HVn.out _ (yR _ _)⟩
       by_cases h3:xs < 0
       ·have Hno:Hid (final=false):=zh (by rw [HS.out,HSd.out];exact zo4 (.inr (.inr (.inl h3))));clear HS HSd HT Hf3;go_wp2_with fail
        go_ret;exact ⟨retb Hno.out.symm,HVn.out _ (yR _ _)⟩
       by_cases h4:(scr.length:Int)<=xs
       ·have Hno:Hid (final=false):=zh (by rw [HS.out,HSd.out];exact zo4 (.inr (.inr (.inr (.inl h4)))));clear HS HSd HT Hf3;go_wp2_with fail
        go_ret;exact ⟨retb Hno.out.symm,HVn.out _ (yR _ _)⟩
       have HR:=zh (zpr (slot:=xs) (t:=t) HV5.out.glob HV5.out.prs HV5.out.mle (by omega) HV5.out.bk.sys HV5.out.bk.l1 hBm (Sl.isSl HV5.out.bk.scr) (Sl.isSl HV5.out.bk.pend) (bstr xsrc) (by rw [zpl];exact HOx.out.2.2));rw [zoI] at HR;obtain ⟨E,hE⟩:∃ E,errE ys xs xsrc=E:=⟨_,rfl⟩;have HE:=zh hE;rw [hE] at HR;clear hE;by_cases hz:E=0
       case neg =>
        have Hno:Hid (final=false):=zh (by
         rw [HS.out,HSd.out]
         exact zo4 (.inr (.inr (.inr (.inr (.inl (by show (errE ys xs xsrc == 0)=false;rw [HE.out];simpa using hz)))))))
        have hz2:(E != 0)=true:=by simpa using hz
        clear HS HSd HT Hf3 HE hz;go_wp2_with fail
        go_at_call 51;refine HR.out.mono ?_;rintro e6 w6 ⟨rfl,hp6,ho6⟩;have HV6:=zh (HV5.out.step hBm hm hgl (by omega) (by omega) ho6 hp6);clear hp6 ho6 y0 y1 y2 y3 p0 x0 x1 x2;go_wp2_with fail
        go_ret;exact ⟨retb Hno.out.symm,HV6.out.prs.mono (by omega),HV6.out.only⟩
       subst hz;have hkc:(k:Int)<=(cp:Int):=by omega
       have hk0:(0:Int)<=(k:Int):=by omega
       go_wp2_with fail
       go_at_call 51;refine HR.out.mono ?_;rintro e6 w6 ⟨rfl,hp6,ho6⟩;have hb6:=hp6.lt;have HV6:=zh (HV5.out.step hBm hm hgl (by omega) (by omega) ho6 hp6);have HX6:=zh (ho6.own HX5.out (by omega));have hTk:=(HV6.out.bk.pend).take (Nat.le_of_lt hkl);have HK:=zh (zqL (pend.take k) (.slice (some ⟨bs,offs,none⟩) k cp) (fun y=>y.same ⟨xt,xs,xsrc⟩) (.pointer (some ⟨wr.heap.size,0,none⟩)) w6 B hTk (HV6.out.bk.l3.imp (fun h=>by rw [show pend.length=0 from h] at hkl;omega) id) (by omega) (fun j hj W hb=>zrA _ (HX6.out.below hb (zr _))));clear hp6 ho6 y0 y1 y2 y3 p0 x0 x1 x2 hTk HV5 HR;have y3:=HV6.out.box.cell (i:=3) rfl;obtain ⟨q,hq⟩:∃ q,((pend.take k).any fun y=>y.same ⟨xt,xs,xsrc⟩)=q:=⟨_,rfl⟩;have Hq:=zh hq;rw [hq] at HK;clear hq;go_wp2_with fail
       go_at_call 89;refine HK.out.mono ?_;rintro e7 w7 ⟨rfl,hb7⟩;have HV7:=zh (HV6.out.below hb7 (by omega));have HX7:=zh (HX6.out.below hb7 (zr _));clear hb7 HK y3 HV6 HX6
       cases q with
       | true =>
        have Hno:Hid (final=false):=zh (by rw [HS.out,HSd.out];exact zo4 (.inr (.inr (.inr (.inr (.inr Hq.out))))));clear HS HSd HT Hf3 HE;go_wp2_with fail
        go_ret
        exact ⟨retb Hno.out.symm,HV7.out.prs.mono (by omega),HV7.out.only⟩
       | false =>
        have Hgo:Hid (final=zn7 1073741824 scr.length (rOf (errE ys)) xt (pend.take (k+1)) (pend.drop (k+1))):=zh (by
         rw [HS.out,HSd.out,HT.out]
         exact zsQ (by simpa using h1) (by simpa using h2) (by simpa using h3) (by simpa using h4) (by show (errE ys xs xsrc == 0)=true;rw [HE.out];rfl) Hq.out)
        have x0:=HX7.out.cell (i:=0) rfl;clear HS HSd HT Hf3 HE;go_wp2_with fail
        go_roundw
        case rel=>exact ⟨k+1,xt,by omega,by go_num,by first | rfl | go_num,HV7,Hgo⟩
        case measure=>simp [intOf];omega
      ·have hki:¬ (k:Int) < (pend.length:Int):=by omega
       obtain rfl:k=pend.length:=by omega
       have Hyes:Hid (final=true):=zh (by rw [HS.out,List.drop_length];rfl);go_wp2_with fail
       go_ret;exact ⟨retb Hyes.out.symm,HVr.out.prs.mono (by omega),HVr.out.only⟩

theorem Prs.made' (w:World) {m:Nat} (hm:w.heap.size < m):Prs (w.alloc (.map #[] 0)) w.heap.size 0 m:=
 ⟨hm,_,_,VMap.made w zoH,fun k=>⟨fun h=>(by cases h),fun _=>rfl⟩⟩
theorem zo7 (w:World):Calls Tryz.prog 43 #[] w fun e w'=>e=.returned (.agg #[.map (some (w.heap.size+1))])/\(∀ m,w.heap.size+1 < m->Prs w' (w.heap.size+1) 0 m)/\Below w.heap.size w w'/\w'.heap.size=w.heap.size+2:=by
 have hmm:=@run_makeMap Tryz.prog;obtain ⟨W1,hW1,hb1,hX1,hs1⟩:=box1 w [.map none] 99;have HW1:=zh hW1;obtain ⟨W2,hW2,hb2,hX2,hs2⟩:∃ W2,W2=W1.setCell ⟨w.heap.size,0,none⟩ (.map (some (w.heap.size+1)))/\Below w.heap.size w W2/\OwnV W2 w.heap.size 99 [.map (some (w.heap.size+1))]/\W2.heap.size=w.heap.size+1:=⟨_,rfl,hb1.setCell (zr _) _,hX1.set 0 _,by simp;omega⟩
 have hP:∀ m,w.heap.size+1 < m->Prs (W2.alloc (.map #[] 0)) (w.heap.size+1) 0 m:=fun m hm=>by
  have:=Prs.made' W2 (m:=m) (by omega);rw [hs2] at this;exact this
 obtain ⟨W3,hW3,hb3,hX3,hs3⟩:∃ W3,W3=W2.alloc (.map #[] 0)/\Below w.heap.size w W3/\OwnV W3 w.heap.size 99 [.map (some (w.heap.size+1))]/\W3.heap.size=w.heap.size+2:=⟨_,rfl,hb2.alloc hb2.size _,hX2.alloc _,by simp;omega⟩;rw [<- hW3] at hP;have x0:=hX1.cell (i:=0) rfl;have xf:=hX1.free;have HW2:=zh hW2;have HW3:=zh hW3;have HX3:=zh hX3;have HP:=zh hP;have Hb3:=zh hb3;clear hW1 hb1 hX1 hW2 hb2 hX2 hW3 hb3 hX3 hP;go_enter Tryz.func43,Tryz.ntmps43
 go_upto_region 1 with (fail)
 rw [<- HW1.out];go_wp2_with fail
 rw [<- HW2.out,<- HW3.out];have y0:=HX3.out.cell (i:=0) rfl;exact yE (v:=.agg #[.map (some (w.heap.size+1))]) (by simp [results,Tryz.results43,go_sem,y0]) rfl ⟨rfl,HP.out,Hb3.out,hs3⟩
structure SC (B : Nat) (w3 : World) (bm gb gp gpr gat m : Nat) : Prop where
  bB : B <= bm
  gl : glB <= bm
  bmm : bm < m
  atm : gat < m
  aB : bm <= gat
  n1 : gb ≠ bm
  n2 : gp ≠ bm
  n3 : gpr ≠ bm
  n4 : gb ≠ gat
  n5 : gp ≠ gat
  n6 : gpr ≠ gat
  n7 : bm ≠ gat
  size : B <= w3.heap.size
structure SIn (B : Nat) (w3 : World) (ys : List Sys) (b : Bk) (p : Pt) (vs vc vp : Value) (bm gb gp gpr gat m : Nat) (n : Nat) (l c : Int) (w : World) : Prop where
  only : Only (fun g => g = bm ∨ g = gat) w3 w
  glob : Glob w
  prs : Prs w bm n m
  bk : BkIn B w ys b vs vc vp
  box : OwnV w gb 26 [.int .i64 b.tick, vs, vc, vp]
  pbox : OwnV w gp 32 p.cells
  rbox : OwnV w gpr 99 [.map (some bm)]
  atb : OwnV w gat 38 [.int .i64 l, .int .i64 c]
  mle : m <= w.heap.size
section
variable {B : Nat} {w3 w w' : World} {ys : List Sys} {b : Bk} {p : Pt} {vs vc vp : Value} {bm gb gp gpr gat m n : Nat} {l c : Int}
theorem SIn.below (h:SIn B w3 ys b p vs vc vp bm gb gp gpr gat m n l c w) (hc:SC B w3 bm gb gp gpr gat m) (hb:Below w.heap.size w w'):SIn B w3 ys b p vs vc vp bm gb gp gpr gat m n l c w':=
 ⟨h.only.trans (Only.of_below hb),h.glob.below hb h.glob.size,h.prs.below hb,h.bk.below (hb.mono (yT hc.size h.only.size)),h.box.below hb (zr _),h.pbox.below hb (zr _),h.rbox.below hb (zr _),h.atb.below hb (zr _),yT h.mle hb.size⟩
theorem SIn.step (h:SIn B w3 ys b p vs vc vp bm gb gp gpr gat m n l c w) (hc:SC B w3 bm gb gp gpr gat m) (ho:Only (fun g=>g=bm) w w') {k:Nat} (hp:Prs w' bm k m):SIn B w3 ys b p vs vc vp bm gb gp gpr gat m k l c w':=
 ⟨h.only.trans (ho.mono fun _ _ e=>.inl e),h.glob.only ho (fun k e=>by subst e;exact hc.gl),hp,h.bk.below (ho.below (fun k e=>by subst e;exact hc.bB) (yT hc.size h.only.size)),ho.own h.box hc.n1,ho.own h.pbox hc.n2,ho.own h.rbox hc.n3,ho.own h.atb (fun e=>hc.n7 e.symm),yT h.mle ho.size⟩
theorem SIn.put (h:SIn B w3 ys b p vs vc vp bm gb gp gpr gat m n l c w) (hc:SC B w3 bm gb gp gpr gat m) (l' c':Int):SIn B w3 ys b p vs vc vp bm gb gp gpr gat m n l' c' ((w.setCell ⟨gat,0,none⟩ (.int .i64 l')).setCell ⟨gat,1,none⟩ (.int .i64 c')):=by
 have ho:Only (fun g=>g=gat) w ((w.setCell ⟨gat,0,none⟩ (.int .i64 l')).setCell ⟨gat,1,none⟩ (.int .i64 c')):=((Only.refl (fun g=>g=gat) w).setIn rfl _).setIn rfl _;have hsz:=hc.size;have hab:=hc.aB;have hbB:=hc.bB;exact ⟨h.only.trans (ho.mono fun _ _ e=>.inr e),h.glob.only ho (fun k e=>by subst e;exact yT hc.gl hab),h.prs.only ho (fun g e=>by subst e;exact ⟨hc.atm,fun e=>hc.n7 e.symm⟩),h.bk.below (ho.below (fun k e=>by subst e;omega) (yT hsz h.only.size)),ho.own h.box hc.n4,ho.own h.pbox hc.n5,ho.own h.rbox hc.n6,(h.atb.set 0 _).set 1 _,yT h.mle ho.size⟩
theorem SIn.mono (h:SIn B w3 ys b p vs vc vp bm gb gp gpr gat m n l c w) {k:Nat} (hk:n<=k):SIn B w3 ys b p vs vc vp bm gb gp gpr gat m k l c w:=
 ⟨h.only,h.glob,h.prs.mono hk,h.bk,h.box,h.pbox,h.rbox,h.atb,h.mle⟩
end
end Go.Proofs.YtdhikpkecmaplaaGreatDoor

/- marchesref13: find, one, jumps, join, walked. -/
import Derived.Test.YtdeneckmoejcfaaFineSZs
import Derived.Test.YtdeneckmoejcfaaKitCZs
set_option linter.unusedSimpArgs false
set_option linter.unusedVariables false
set_option maxRecDepth 100000
set_option maxHeartbeats 1000000
namespace Go.Proofs.Ytdeneckmoejcfaa
open Go.RowKit

def InsS.cells (i : InsS) : List Value := [.int .u8 i.op, .int .i64 i.a]
def znH (c : znA) : List Value := c.flatMap InsS.cells
theorem zpx (c:znA):(znH c).length=c.length * 2:=zpU _ 2 (fun _=>rfl) c
theorem zrL (a b:znA):znH (a++b)=znH a++znH b:=by simp [znH]
theorem cellsC_one (i:InsS):(znH [i]).all (fun u=>u.oneCell')=true:=rfl
theorem cellsC_all (c:znA):(znH c).all (fun u=>u.oneCell')=true:=by
 induction c with
 | nil=>rfl
 | cons x r ih =>
  rw [show znH (x :: r)=znH [x]++znH r from zrL [x] r,List.all_append,ih,cellsC_one];rfl
def OwnC (w : World) (B : Nat) (e : TypeId) (v : Value) (c : znA) : Prop := w.ownsRow B e 2 v c.length (znH c)
def SlC (w : World) (c : znA) (v : Value) : Prop := Sl w 2 c.length (znH c) v
theorem OwnC.sl {w:World} {B:Nat} {e:TypeId} {v:Value} {c:znA} (h:OwnC w B e v c):SlC w c v:=Sl.of_own h
theorem OwnC.below {w w':World} {B:Nat} {e:TypeId} {v:Value} {c:znA} (h:OwnC w B e v c) (hb:Below w.heap.size w w'):OwnC w' B e v c:=zbu h hb (zr _)
theorem znE {w:World} {B B':Nat} {e:TypeId} {sz:Nat} {v:Value} {n:Nat} {xs:List Value} (h:w.ownsRow B e sz v n xs) (hB:B'<=B):w.ownsRow B' e sz v n xs:=by
 obtain ⟨h1,h2⟩:=h;refine ⟨h1,?_⟩;rcases h2 with hn | ⟨g,cap,cur,hv,hg,r⟩
 ·exact .inl hn
 ·exact .inr ⟨g,cap,cur,hv,yT hB hg,r⟩
theorem OwnV.own2 {w:World} {g:Nat} {e:TypeId} {vs:List Value} (h:OwnV w g e vs) {base n sz:Nat} (hb:base<=g) (hl:vs.length=n * sz) (hm:n<=maxLen):w.ownsRow base e sz (.slice (some ⟨g,0,none⟩) n n) n vs:=
 ⟨hl,.inr ⟨g,n,vs.toArray,rfl,hb,h,zr _,hm,by simp [hl],by rw [<- hl];simp⟩⟩
theorem SlC.below {w w':World} {c:znA} {v:Value} (h:SlC w c v) (hb:Below w.heap.size w w'):SlC w' c v:=Sl.below (by omega) h hb (zr _)
theorem SlC.at {w:World} {c:znA} {a:Option Addr} {m cap:Nat} (h:SlC w c (.slice a m cap)) {k:Nat} (hk:k < c.length) :
  ∃ b off,a=some ⟨b,off,none⟩/\b < w.heap.size/\w.cell? ⟨b,off+k * 2,none⟩=some (.int .u8 c[k].op)/\w.cell? ⟨b,off+k * 2+1,none⟩=some (.int .i64 c[k].a):=by
 obtain ⟨b,off,rfl,hlt,hc⟩:=Sl.at (by omega) h (by omega);refine ⟨b,off,rfl,hlt,?_,?_⟩
 ·have:=hc (k * 2+0) (by omega);rw [show znH c=c.flatMap InsS.cells from rfl,zeW InsS.cells 2 (fun _=>rfl) c k hk 0 (by omega)] at this;exact this
 ·have:=hc (k * 2+1) (by omega);rw [show znH c=c.flatMap InsS.cells from rfl,zeW InsS.cells 2 (fun _=>rfl) c k hk 1 (by omega)] at this;rw [Nat.add_assoc];exact this
theorem info_rins:(Try.prog.info? 47).map (fun i=>(i.zero,i.size,i.bytes))=some (some (.agg #[.int .u8 0,.int .i64 0]),2,16):=by kernel_rfl
theorem rfind_any (l:znU) (s:List UInt8) (v:Value) (w:World) (hS:Strs w l v) (hl:l.length<=1000000) :
  Calls Try.prog 71 #[v,.string (bstr s)] w fun e w'=>e=.returned (.int .i64 ((zai s l 0:Int) - 1))/\w=w':=by
 obtain ⟨a,cap,rfl,hc1,hc2⟩:=Sl.form hS;have HS:=zh hS;obtain ⟨final,hfin⟩:∃ r,zai s l 0=r:=⟨_,rfl⟩;have Hf:Hid (final=zai s (l.drop 0) 0):=zh (by rw [List.drop_zero,hfin]);rw [hfin];clear hfin hS;go_enter Try.func71,Try.ntmps71
 go_wp2_with fail
 obtain ⟨wq,rfl⟩:∃ wq:World,wq=w:=⟨_,rfl⟩;go_loopw [4,5,6,7,8,9,10,11,12,13,14,15,16,17,18] (fun _ t5 _ _ _ _ _ _ _ _ _ _ _ _ _ wr=>∃ k:Nat,k<=l.length/\t5=.int .i64 k/\Hid (final=zai s (l.drop k) k)/\wr=wq) (fun _ t5 _ _ _ _ _ _ _ _ _ _ _ _ _ _=>l.length - (intOf t5).toNat)
 case atStart=>exact ⟨0,by omega,by first | rfl | go_num,zh Hf.out,rfl⟩
 case round =>
  obtain ⟨k,hk,rfl,Hk,rfl⟩:=hrel;by_cases hlt:k < l.length
  ·obtain ⟨b,off,rfl,hcell⟩:=Strs.cell HS.out (by omega);have hlt1:(k:Int) < l.length:=by omega
   have c0:=hcell k hlt;have Hst:=zh (zc5 (s:=s) (l:=l) (k:=k) hlt);obtain ⟨q,hq,hq2⟩:∃ q:Bool,((bstr l[k]).toList == (bstr s).toList)=q/\(q=true ↔ l[k]=s):=⟨_,rfl,zdP _ _⟩
   generalize l[k]=kw at *
   have Hq:=zh hq2;clear hq2 hcell;cases q
   ·have Hk2:Hid (final=zai s (l.drop (k+1)) (k+1)):=zh (by rw [Hk.out,Hst.out,yN (fun e=>by have:=Hq.out.2 e;cases this)]);go_wp2_with fail
    go_roundw
    case rel=>exact ⟨k+1,by omega,by go_num,zh Hk2.out,by first | rfl | trivial⟩
    case measure=>simp [intOf];omega
   ·have Hk2:Hid (final=k+1):=zh (by rw [Hk.out,Hst.out,yP (Hq.out.1 rfl)]);go_wp2_with fail
    go_ret;exact ⟨by rw [Hk2.out];simp;try omega,rfl⟩
  ·have hlt1:¬ (k:Int) < l.length:=by omega
   have Hk2:Hid (final=0):=zh (by rw [Hk.out,zdq (by omega)]);go_wp2_with fail
   go_ret;exact ⟨by rw [Hk2.out];rfl,rfl⟩
theorem one_any (op a:Int) (w:World):Calls Try.prog 72 #[.int .u8 op,.int .i64 a] w fun e w'=>(∃ v,e=.returned v/\OwnC w' w.heap.size 47 v [⟨op,a⟩])/\Below w.heap.size w w':=by
 go_enter Try.func72,Try.ntmps72
 go_wp2;go_ret;exact ⟨⟨_,rfl,(OwnV.new w 47 (znH [⟨op,a⟩])).own2 (sz:=2) (n:=1) (zr _) rfl (by decide)⟩,(yR _ _).alloc (zr _) _⟩
theorem jumps_any (op a:Int) (w:World):Calls Try.prog 55 #[.agg #[.int .u8 op,.int .i64 a]] w fun e w'=>e=.returned (.bool (zn5 ⟨op,a⟩))/\Below w.heap.size w w':=by
 obtain ⟨p1,p2,q1,q2,hq⟩:∃ p1 p2:Bool,decide (op >= 11)=p1/\decide (op<=13)=p2/\zn5 ⟨op,a⟩=(p1 && p2):=⟨_,_,rfl,rfl,by unfold zn5;rw [Bool.decide_and]⟩;rw [hq];clear hq;have HB:=zh ((yR w.heap.size w).alloc (zr _) (.cells #[.int .u8 op,.int .i64 a] 47));cases p1 <;> cases p2
 all_goals
  go_enter Try.func55,Try.ntmps55
  go_wp2;go_ret;exact ⟨rfl,HB.out⟩
theorem shiftC_take {b:znA} {k:Nat} (hk:k < b.length) (m:Int):znF m (b.take (k+1))=znF m (b.take k)++[znK m b[k]]:=by
 rw [List.take_succ_eq_append_getElem hk,zpp];rfl
theorem join_any (a b:znA) (va vb:Value) (w:World) (hA:SlC w a va) (hB:SlC w b vb) (hla:a.length<=1000000) (hlb:b.length<=1000000) (hj:∀ i ∈ b,zn5 i=true->0<=i.a/\i.a<=1000000) :
  Calls Try.prog 58 #[va,vb] w fun e w'=>(∃ v,e=.returned v/\OwnC w' w.heap.size 47 v (znB a b))/\Below w.heap.size w w':=by
 obtain ⟨aa,ca,rfl,_,_⟩:=Sl.form hA;obtain ⟨ab,cb,rfl,hcb,hcb2⟩:=Sl.form hB;have HA:=zh hA;have HB:=zh hB;obtain ⟨W1,hW1,hO1,hb1⟩:∃ W1,W1=w.alloc (.cells #[] 47)/\W1.ownsRow w.heap.size 47 2 (.slice (some ⟨w.heap.size,0,none⟩) 0 0) 0 []/\Below w.heap.size w W1:=⟨_,rfl,(OwnV.new w 47 []).own2 (n:=0) (sz:=2) (zr _) rfl (by decide),(yR _ _).alloc (zr _) _⟩;have hA1:SlC W1 a (.slice aa a.length ca):=hA.below hb1;have HA1:=zh hA1;have Hb1:=zh hb1;have HO1:=zh hO1;have hs1:=hb1.size;have Hj:=zh hj;clear hA hB hj hA1 hb1 hO1;go_enter Try.func58,Try.ntmps58
 go_upto_region 1 with (fail)
 go_wp2_with (at_builtin;rw [<- hW1];clear hW1;refine zn0 rfl (.tmp 8) (.tmp 9) 38 rfl HO1.out info_rins Try.underlying38 rfl (by decide) rfl HA1.out rfl (cellsC_all a) (by unfold maxLen;omega) (by omega) hs1 ?_;intro v0 w0 hown0 hg0 hb0 hat0)
 have hown0':w0.ownsRow w.heap.size 47 2 v0 (a.length+0) (znH a++znH (znF a.length (b.take 0))):=by
  rw [Nat.zero_add] at hown0;rw [List.take_zero,show znH (znF a.length [])=[] from rfl,List.append_nil];exact hown0
 have Hb0:=zh (Hb1.out.trans hb0);clear hown0 hg0 hb0 hat0;go_loopw [5,6,7,11,12,13,14,15,16,17,18,19,20,21,22,23,24,25,26,27,28,29,30,31,32] (fun t5 t6 _ _ _ _ _ _ _ _ _ _ _ _ _ _ _ _ _ _ _ _ _ _ _ wr=>∃ (k:Nat),k<=b.length/\t6=.int .i64 k/\wr.ownsRow w.heap.size 47 2 t5 (a.length+k) (znH a++znH (znF a.length (b.take k)))/\Hid (Below w.heap.size w wr)) (fun _ t6 _ _ _ _ _ _ _ _ _ _ _ _ _ _ _ _ _ _ _ _ _ _ _ _=>b.length - (intOf t6).toNat)
 case atStart=>exact ⟨0,by omega,by first | rfl | go_num,hown0',zh Hb0.out⟩
 case round =>
  obtain ⟨k,hk,rfl,hown,Hb⟩:=hrel;by_cases hkl:k < b.length
  ·have hki:(k:Int) < (b.length:Int):=by omega
   have hszr:=Hb.out.size;obtain ⟨bb,off,rfl,hbw,c0,c1⟩:=(HB.out.below Hb.out).at hkl;have Hst:=zh (shiftC_take hkl a.length);have Hjk:=zh (Hj.out b[k] (List.getElem_mem hkl));have HJ:=zh (jumps_any b[k].op b[k].a (wr.alloc (.cells #[.int .u8 b[k].op,.int .i64 b[k].a] 47)));have hX1:=OwnV.new wr 47 [.int .u8 b[k].op,.int .i64 b[k].a];have HX1:=zh hX1;obtain ⟨op,x,he⟩:∃ op x,b[k]=⟨op,x⟩:=⟨_,_,rfl⟩;have Hsh:Hid (znK a.length ⟨op,x⟩=if zn5 ⟨op,x⟩=true then ⟨op,x+a.length⟩ else ⟨op,x⟩):=zh rfl;rw [he] at Hst Hjk HJ HX1 c0 c1;obtain ⟨q,hq⟩:∃ q,zn5 ⟨op,x⟩=q:=⟨_,rfl⟩;rw [hq] at HJ Hsh Hjk;have hala:(a.length:Int)<=1000000:=by omega
   have hala0:(0:Int)<=(a.length:Int):=by omega
   have hltv:∀ g,u5.ownBlock=some g->g < wr.heap.size:=fun g hg=>(hown.lt g hg).2
   clear hX1 he hq;go_wp2_with fail
   refine HJ.out.mono ?_;rintro e2 w2 ⟨rfl,hb2⟩;have HX2:=zh (HX1.out.below hb2 (zr _));have hown2:=zbu (hown.alloc (.cells #[.int .u8 op,.int .i64 x] 47)) hb2 (zr _);have Hb2:=zh ((Hb.out.alloc hszr (.cells #[.int .u8 op,.int .i64 x] 47)).trans (hb2.mono (by simp;omega)));have hlt2:wr.heap.size < w2.heap.size:=HX2.out.lt;obtain ⟨x0,x1⟩:=yc2 HX2.out;have xf:=HX2.out.free;clear hb2 c0 c1
   cases q with
   | true =>
    obtain ⟨hj0,hj1⟩:=Hjk.out rfl;have Hst2:Hid (znF a.length (b.take (k+1))=znF a.length (b.take k)++[⟨op,x+a.length⟩]):=zh (by rw [Hst.out,Hsh.out,yP rfl]);obtain ⟨W3,hW3,hown3,hb3⟩:∃ W3,W3=w2.setCell ⟨wr.heap.size,1,none⟩ (.int .i64 (x+a.length))/\W3.ownsRow w.heap.size 47 2 u5 (a.length+k) (znH a++znH (znF a.length (b.take k)))/\Below w.heap.size w W3:=⟨_,rfl,zdB hown2 (fun g hg e=>by have:=hltv g hg;omega) _ _,Hb2.out.setCell (by show w.heap.size<=wr.heap.size;exact hszr) _⟩;have hOx:OwnV W3 wr.heap.size 47 [.int .u8 op,.int .i64 (x+a.length)]:=by rw [hW3];exact HX2.out.set 1 _
    have Hb3:=zh hb3;have HW3:=zh hW3;have hs3:=hb3.size;clear hb3 hW3 hown2;go_upto_region 8 with (fail)
    rw [<- HW3.out];obtain ⟨y0,y1⟩:=yc2 hOx;go_wp2_with (at_builtin;refine zbj rfl (.tmp 29) (.tmp 31) 38 rfl hown3 info_rins Try.underlying38 rfl (by decide) rfl 1 1 rfl rfl rfl (by unfold maxLen;omega) (by omega) hs3 ?_;intro v' w4 hown4 hg4 hb4 hat4)
    go_roundw
    case rel=>exact ⟨k+1,by omega,by go_num,by rw [Hst2.out,zrL,<- List.append_assoc];exact hown4,zh (Hb3.out.trans hb4)⟩
    case measure=>simp [intOf];omega
   | false =>
    have Hst2:Hid (znF a.length (b.take (k+1))=znF a.length (b.take k)++[⟨op,x⟩]):=zh (by rw [Hst.out,Hsh.out,yN (by decide)]);have hs3:=Hb2.out.size;go_wp2_with (at_builtin;refine zbj rfl (.tmp 29) (.tmp 31) 38 rfl hown2 info_rins Try.underlying38 rfl (by decide) rfl 1 1 rfl rfl rfl (by unfold maxLen;omega) (by omega) hs3 ?_;intro v' w4 hown4 hg4 hb4 hat4)
    go_roundw
    case rel=>exact ⟨k+1,by omega,by go_num,by rw [Hst2.out,zrL,<- List.append_assoc];exact hown4,zh (Hb2.out.trans hb4)⟩
    case measure=>simp [intOf];omega
  ·have hki:¬ (k:Int) < (b.length:Int):=by omega
   have hke:k=b.length:=by omega
   have Hown:Hid (OwnC wr w.heap.size 47 u5 (znB a b)):=zh (by
    unfold OwnC;rw [znT,znB,zrL];rw [hke,List.take_length] at hown
    exact hown)
   clear hown;go_wp2_with fail
   go_ret;exact ⟨⟨_,rfl,Hown.out⟩,Hb.out⟩
end Go.Proofs.Ytdeneckmoejcfaa

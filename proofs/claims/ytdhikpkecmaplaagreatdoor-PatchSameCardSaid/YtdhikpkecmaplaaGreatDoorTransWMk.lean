/- The program's translator: list, walked; at every depth. -/
import Derived.Test.YtdhikpkecmaplaaGreatDoorPaYMk
import Derived.Test.YtdhikpkecmaplaaGreatDoorQRightMk
import Derived.Test.YtdhikpkecmaplaaGreatDoorTransMk
set_option linter.unusedSimpArgs false
set_option linter.unusedVariables false
set_option maxRecDepth 100000
set_option maxHeartbeats 4000000
namespace Go.Proofs.YtdhikpkecmaplaaGreatDoor
open Go.RowKit

theorem ztM (xs ys:List St) (s:TS):tSs (xs++ys) s=tSs ys (tSs xs s):=by
 induction xs generalizing s with
 | nil=>rfl
 | cons x r ih=>rw [List.cons_append,tSs,tSs,ih]
theorem ztj {xs:List St} {k:Nat} {x:St} (h:xs[k]? = some x) (s:TS):tSs (xs.take (k+1)) s=tS x (tSs (xs.take k) s):=by
 obtain ⟨hlt,rfl⟩:=List.getElem?_eq_some_iff.1 h;rw [List.take_succ_eq_append_getElem hlt,ztM];rfl
theorem zqV (xs:List St) (k:Nat):szSs (xs.take k)<=szSs xs:=by
 have:=ziC (xs.take k) (xs.drop k);rw [List.take_append_drop] at this;omega
theorem zrN {w:World} {base:Nat} {e:TypeId} {a:Option Addr} {m cap n:Nat} {xs:List Value} (h:w.ownsRow base e 1 (.slice a m cap) m xs) (hn:n<=m):w.ownsRow base e 1 (.slice a n cap) n (xs.take n):=by
 obtain ⟨h1,h2⟩:=h;refine ⟨by rw [List.length_take];omega,?_⟩;rcases h2 with ⟨hv,h0⟩ | ⟨g,cp,cur,hv,hg,hh,hnc,hm,hs,ht⟩
 ·cases hv;exact .inl ⟨by rw [show n=0 by omega],by omega⟩
 ·cases hv;exact .inr ⟨g,cap,cur,rfl,hg,hh,by omega,hm,hs,by rw [<- ht,List.take_take];congr 1;omega⟩
theorem TrC.shrunk {w:World} {t B:Nat} {vc:Value} {a:Option Addr} {m cap n:Nat} {s:TS} (h:TrC w t B vc (.slice a m cap) s) (hm:m=s.names.length) (hn:n<=m) :
  TrC (w.setCell ⟨t,4,none⟩ (.slice a n cap)) t B vc (.slice a n cap) (s.back n)/\TrF t vc (.slice a m cap) w vc (.slice a n cap) (w.setCell ⟨t,4,none⟩ (.slice a n cap)):=by
 have hob:(Value.slice a n cap).ownBlock=(Value.slice a m cap).ownBlock:=by cases a <;> rfl
 have hr:=h.names;rw [<- hm] at hr;have hsh:=zrN hr hn;rw [<- List.map_take] at hsh;have hl:(s.names.take n).length=n:=by rw [List.length_take];omega
 refine ⟨⟨h.blk.set 4 _,zdB h.code (fun g hg e=>by subst e;exact h.tc hg) _ _,?_,h.tB,h.tc,by rw [hob];exact h.tn,by rw [hob];exact h.cn⟩,(Only.refl _ _).setIn (.inl rfl) _,fun k hk=>.inl (by unfold TrS at hk ⊢;rw [hob] at hk;exact hk)⟩;show (w.setCell ⟨t,4,none⟩ (.slice a n cap)).ownsRow B _ 1 _ (s.names.take n).length ((s.names.take n).map strT);rw [hl];exact zdB hsh (fun g hg e=>by subst e;rw [hob] at hg;exact h.tn hg) _ _
theorem zrO (d:Nat) (ih:zoC d):zoC (d+1):=by
 intro l v w t B vc vn s hf hok hL hB h hn hc hlo;obtain ⟨a,cap,rfl,hcc1,hcc2⟩:=hL.form;obtain ⟨ac,capc,rfl,_,_⟩:=Sl.form (Sl.of_own h.code);obtain ⟨an,capn,rfl,_,_⟩:=Sl.form (Sl.of_own h.names);have z4:=h.blk.cell (i:=4) rfl;rw [zfn] at hf;have Hal:=zh (List.all_eq_true.1 hf);have Hoks:=zh hok;have HL:=zh hL;have HT0:=zh h;have Hih:=zh ih;have Hlaw:Hid (∀ k,LisT s (tSs (l.take k) s) (szSs (l.take k)) (znQ s.names (l.take k))):=zh (fun k=>zpn (d+1) _ s (by rw [zfn,List.all_eq_true];exact fun x hx=>Hal.out x (List.mem_of_mem_take hx)));have hle:=zs7 l;clear ih hf hok hL h;go_enter Tryz.func74,Tryz.ntmps74
 go_wp2_with fail
 go_loopw [6,14,15,16,17,18,19,20,21] (fun _ t14 _ _ _ _ _ _ _ wr=>∃ (k:Nat) (vc' vn':Value),k<=l.length/\t14=.int .i64 k/\Hid (TrC wr t B vc' vn' (tSs (l.take k) s))/\Hid (TrF t (.slice ac s.code.length capc) (.slice an s.names.length capn) w vc' vn' wr)) (fun _ t14 _ _ _ _ _ _ _ _=>l.length - (intOf t14).toNat)
 case atStart=>exact ⟨0,_,_,by omega,by first | rfl | go_num,zh HT0.out,zh (TrF.refl _ _ _ _)⟩
 case round =>
  obtain ⟨k,vc1,vn1,hk,rfl,HT,HF⟩:=hrel;have hBr:=HF.out.below HT0.out hB;have hsr:=HF.out.size;have hlaw:=Hlaw.out k;by_cases hkl:k < l.length
  ·have hki:(k:Int) < (l.length:Int):=by omega
   obtain ⟨b,off,op,n,name,es,body,els,ae,ce,ab,cb,al,cl,rfl,hbB,hbw,hat,c0,c1,c2,c3,c4,c5,hE,hLb,hLl⟩:=(HL.out.low hBr).at hkl;obtain ⟨W2,hW2,hX2,hb2⟩:∃ W2,W2=wr.alloc (.cells #[.int .u8 op,.int .i64 n,.string (bstr name),.slice ae es.length ce,.slice ab body.length cb,.slice al els.length cl] 184)/\OwnV W2 wr.heap.size 184 [.int .u8 op,.int .i64 n,.string (bstr name),.slice ae es.length ce,.slice ab body.length cb,.slice al els.length cl]/\Below wr.heap.size wr W2:=⟨_,rfl,OwnV.new _ _ _,(yR _ _).alloc (zr _) _⟩;have hl1:=hlaw.len;have hl4:=hlaw.loc;obtain ⟨nx,hnx,hnx2⟩:=hlaw.names;have hl5:(tSs (l.take k) s).names.length<=s.names.length+szSs (l.take k):=by rw [hnx,yA];omega
   have hl2:=zlM hat;have hl3:=zqV l (k+1);have hs2:=hb2.size;have HE:=zh (zsm d Hih.out op n name es body els _ _ _ W2 t B vc1 vn1 (tSs (l.take k) s) (Hal.out _ (List.mem_of_getElem? hat)) (znr Hoks.out hat) (hE.low (hb2.mono (by omega))) (hLb.low (hb2.mono (by omega))) (hLl.low (hb2.mono (by omega))) (by omega) (HT.out.grown hb2) (by omega) (by omega) (by omega));have Htk:=zh (ztj hat s);rw [<- Htk.out] at HE;have HF2:=zh (HF.out.trans (TrF.of_below t vc1 vn1 hb2));have HW2:=zh hW2;obtain ⟨y0,y1,y2,y3,y4,y5⟩:=yc6 hX2;clear hX2 hb2 hW2 hlaw hl1 hl2 hl3 hl4 hl5 hnx hnx2 hat hE hLb hLl HT HF hBr z4;go_upto_region 4 with (fail)
   rw [<- HW2.out];go_wp2_with fail
   refine HE.out.mono ?_;rintro e3 w3 ⟨rfl,vc3,vn3,hT3,hF3⟩;have HT3:=zh hT3;have HF3:=zh (HF2.out.trans hF3);clear hT3 hF3 HE HF2;go_wp2_with fail
   go_roundw
   case rel=>exact ⟨k+1,vc3,vn3,by omega,by go_num,HT3,HF3⟩
   case measure=>simp [intOf];omega
  ·have hki:¬ (k:Int) < (l.length:Int):=by omega
   have hke:k=l.length:=by omega
   obtain ⟨nx,hnx,hnx2⟩:=hlaw.names;have hT2:TrC wr t B vc1 vn1 (tSs l s):=by have:=HT.out;rw [hke,List.take_length] at this;exact this
   rw [hke,List.take_length] at hnx;have hnl:s.names.length<=(tSs l s).names.length:=by rw [hnx,yA];omega
   obtain ⟨an1,capn1,hvn,hcn1,hcn2⟩:=Sl.form (Sl.of_own hT2.names);obtain ⟨m,hm⟩:∃ m,m=(tSs l s).names.length:=⟨_,rfl⟩;rw [<- hm] at hvn hnl hcn1;subst hvn;have HS:=zh (hT2.shrunk (n:=s.names.length) hm hnl);have z41:=hT2.blk.cell (i:=4) rfl;have zf:=hT2.blk.free;have hnli:(s.names.length:Int)<=(m:Int):=by omega
   have hcap0:(s.names.length:Int)<=(capn1:Int):=by omega
   have hcap3:s.names.length<=capn1:=by omega
   have hcap2:(capn1:Int)<=9223372036854775807:=by omega
   have Hm:=zh hm;clear HT hke hlaw hT2 hnx hnx2 hm hBr z4;go_wp2_with fail
   exact yE (results_none rfl _ _ _) rfl ⟨rfl,_,_,HS.out.1,HF.out.trans HS.out.2⟩
theorem zrP:zoC 0:=by
 intro l v w t B vc vn s hf hok hL hB h hn hc hlo
 obtain rfl:l=[]:=by
  cases l with
  | nil=>rfl
  | cons x r=>cases hf
 obtain ⟨a,cap,hv,-,-⟩:=hL.form;have hv2:v=.slice a 0 cap:=hv;subst hv2;obtain ⟨an,capn,rfl,hcn1,hcn2⟩:=Sl.form (Sl.of_own h.names);have z4:=h.blk.cell (i:=4) rfl;have zf:=h.blk.free;have hcap0:(s.names.length:Int)<=(capn:Int):=by omega
 have hcap2:(capn:Int)<=9223372036854775807:=by omega
 have HS:=zh (h.shrunk (n:=s.names.length) rfl (zr _));have Hr:Hid ((tSs [] s).back s.names.length=s.back s.names.length):=zh rfl;clear hf hok hL h hv;go_enter Tryz.func74,Tryz.ntmps74
 go_wp2_with fail
 obtain ⟨wq,hwq⟩:∃ wq:World,wq=w:=⟨_,rfl⟩;go_loopw [6,14,15,16,17,18,19,20,21] (fun _ t14 _ _ _ _ _ _ _ wr=>t14=.int .i64 0/\wr=w) (fun _ _ _ _ _ _ _ _ _ _=>0)
 case atStart=>exact ⟨by first | rfl | go_num,rfl⟩
 case round =>
  obtain ⟨rfl,rfl⟩:=hrel;go_wp2_with fail
  exact yE (results_none rfl _ _ _) rfl ⟨rfl,_,_,by rw [Hr.out];exact HS.out.1,HS.out.2⟩
theorem zsp:∀ d,zoC d:=by
 intro d
 induction d with
 | zero=>exact zrP
 | succ d ih=>exact zrO d ih

def ts0 : TS := ⟨[], [], 0, 0⟩
def znX (s : TS) : TS := if 4000 < s.code.length then s.fail 3 else s
theorem zsE (l:List St) (h:zaJ 40 l=true) :
  ((znX ((tSs l ts0).back 0)).e≠0->zol l=.err (znX ((tSs l ts0).back 0)).e/\((znX ((tSs l ts0).back 0)).e=130∨(znX ((tSs l ts0).back 0)).e=131∨(znX ((tSs l ts0).back 0)).e=132∨(znX ((tSs l ts0).back 0)).e=5∨(znX ((tSs l ts0).back 0)).e=3)) /\
  ((znX ((tSs l ts0).back 0)).e=0->(znX ((tSs l ts0).back 0)).code.length<=4000/\zol l=.ok ⟨(znX ((tSs l ts0).back 0)).code,((znX ((tSs l ts0).back 0)).locals:Int),znW 4 (znX ((tSs l ts0).back 0)).code,znW 5 (znX ((tSs l ts0).back 0)).code⟩):=by
 have L:=zpn 40 l ts0 h
 generalize hs:tSs l ts0=s1 at *
 have hc:(s1.back 0).code=s1.code:=rfl;have hl:(s1.back 0).locals=s1.locals:=rfl;have hns:ts0.names=[]:=rfl;rw [hns] at L
 cases hcl:znQ [] l with
 | err k =>
  have he:s1.e=k:=L.bad rfl (zr _) k hcl;have hk:=zoT [] l k hcl
  have he2:(znX (s1.back 0)).e=k:=by
   unfold znX;split
   ·rw [TS.fail_keep (by show s1.e≠0;omega)];exact he
   ·exact he
  refine ⟨fun _=>⟨?_,by omega⟩,fun h0=>by omega⟩
  rw [zol,yP h,hcl,he2];rfl
 | ok r =>
  obtain ⟨a1,a2,a3⟩:=L.ok rfl (zr _) r hcl;have a2':s1.code=r.1:=by rw [a2];show znB [] r.1=_;exact zoQ _
  have a3':s1.locals=r.2:=by rw [a3];show max 0 r.2=_;omega
  by_cases hlong:4000 < s1.code.length
  ·have e1:znX (s1.back 0)=(s1.back 0).fail 3:=yP hlong;have e2:(znX (s1.back 0)).e=3:=by rw [e1];exact TS.fail_new a1 _
   refine ⟨fun _=>⟨?_,by omega⟩,fun h0=>by omega⟩;rw [zol,yP h,hcl,e2];show (if 4000 < r.1.length then CR.err 3 else _)=_;rw [yP (by rw [<- a2'];exact hlong)]
  ·have e1:znX (s1.back 0)=s1.back 0:=yN hlong;rw [e1];refine ⟨fun h0=>absurd a1 h0,fun _=>⟨by rw [hc];omega,?_⟩⟩;rw [zol,yP h,hcl,hc,hl,a2',a3'];show (if 4000 < r.1.length then CR.err 3 else _)=_;rw [yN (by rw [<- a2'];exact hlong)]
theorem TrC.init (w:World) (B:Nat) (hB:B<=w.heap.size):TrC (w.alloc (.cells #[.slice none 0 0,.int .i64 0,.int .u32 0,.int .u32 0,.slice none 0 0,.int .i64 0] 137)) w.heap.size B (.slice none 0 0) (.slice none 0 0) ts0:=
 ⟨OwnV.new _ _ _,World.ownsRow_nil _ _ _ _,World.ownsRow_nil _ _ _ _,hB,by simp [Value.ownBlock],by simp [Value.ownBlock],by simp [Value.ownBlock]⟩
theorem SsL.up {w:World} {B B':Nat} {l:List St} {v:Value} (h:SsL w B l v) (hB:B<=B'):SsL w B' l v:=by
 obtain ⟨cs,h1,h2,h3⟩:=h;exact ⟨cs,h1,h2.imp id fun h g hg=>Nat.lt_of_lt_of_le (h g hg) hB,h3.weak fun g _ hg=>Nat.lt_of_lt_of_le hg hB⟩
theorem zrX (l:List St) (v:Value) (w:World) (B:Nat) (hok:okSs l) (hsz:szSs l<=100000) (hL:SsL w B l v) (hB:B<=w.heap.size) :
  Calls Tryz.prog 33 #[v] w fun e w'=>ProgE 115 w w' e (zol l)/\Below w.heap.size w w':=by
 obtain ⟨a,cap,rfl,_,_⟩:=hL.form;obtain ⟨W1,hW1,hb1⟩:∃ W1,W1=w.alloc (.cells #[.slice none 0 0,.int .i64 0,.int .u32 0,.int .u32 0] 59)/\Below w.heap.size w W1:=⟨_,rfl,(yR _ _).alloc (zr _) _⟩;have hX:OwnV W1 w.heap.size 59 [.slice none 0 0,.int .i64 0,.int .u32 0,.int .u32 0]:=by rw [hW1];exact OwnV.new w _ _
 have hs1:=hb1.size;have hlt1:=hX.lt;have HP:=zh (zem l _ W1 B hok (hL.low (hb1.mono hB)) (by omega));have HLW:=zh (fun (W2:World) (hb:Below W1.heap.size W1 W2)=>hL.low ((hb1.trans (hb.mono hs1)).mono hB));have Hok:=zh hok;have HX:=zh hX;have Hb1:=zh hb1;have HW1:=zh hW1;obtain ⟨final,hfin⟩:∃ r,zol l=r:=⟨_,rfl⟩;have HF:Hid (final=zol l):=zh hfin.symm;rw [hfin];clear hfin hok hL hW1 hX hb1;obtain ⟨q,hq⟩:∃ q,zaJ 40 l=q:=⟨_,rfl⟩;have Hq:=zh hq;rw [hq] at HP;clear hq;go_enter Tryz.func33,Tryz.ntmps33
 go_upto_region 1 with (fail)
 rw [<- HW1.out];go_wp2_with fail
 refine HP.out.mono ?_;rintro e2 w2 ⟨rfl,hb2⟩;have HX2:=zh (HX.out.below hb2 (zr _));have Hb2:=zh (Hb1.out.trans (hb2.mono hs1));have hs2:=Hb2.out.size;have HL2:=zh (HLW.out w2 hb2);have hlt2:=HX2.out.lt;clear hb2 HX HP HLW;cases q
 ·obtain ⟨W3,hW3,hX3,hg3⟩:=set4 HX2.out (.slice none 0 0) (.int .i64 0) (.int .u32 0) (.int .u32 0);obtain ⟨x0,x1,x2,x3⟩:=yc4 HX2.out;have xf:=HX2.out.free;have HW3:=zh hW3;have HX3:=zh hX3;have Hg3:=zh hg3;have Hfz:Hid (final=.err 130):=zh (by rw [HF.out,zol,Hq.out];rfl);clear hW3 hX3 hg3;go_wp2_with fail
  rw [<- HW3.out];obtain ⟨y0,y1,y2,y3⟩:=yc4 HX3.out;refine yE (v:=.tuple #[zpM,.int .i64 130]) (by simp [results,Tryz.results33,go_sem,y0,y1,y2,y3,zpM]) rfl ?_;rw [Hfz.out];exact ⟨⟨rfl,by decide⟩,Hb2.out.trans (zbz Hg3.out (by omega) hs2)⟩
 ·obtain ⟨W3,hW3,hT3,hb3⟩:∃ W3,W3=w2.alloc (.cells #[.slice none 0 0,.int .i64 0,.int .u32 0,.int .u32 0,.slice none 0 0,.int .i64 0] 137)/\TrC W3 w2.heap.size w2.heap.size (.slice none 0 0) (.slice none 0 0) ts0/\Below w2.heap.size w2 W3:=⟨_,rfl,TrC.init w2 w2.heap.size (zr _),(yR _ _).alloc (zr _) _⟩;have hs3:=hb3.size;have HZ:=zh (zsp 40 l _ W3 w2.heap.size w2.heap.size _ _ ts0 Hq.out Hok.out ((HL2.out.low (hb3.mono (by omega))).up (by omega)) hs3 hT3 (by show 0+szSs l<=900000;omega) (by show 0+4 * szSs l<=900000;omega) (by show 0<=900000;omega));have HX3:=zh (HX2.out.below hb3 (zr _));have HT3:=zh hT3;have HF3:=zh (TrF.of_below w2.heap.size (.slice none 0 0) (.slice none 0 0) hb3);have HW3:=zh hW3;have Hlaw:=zh (zsE l Hq.out);obtain ⟨t,ht⟩:∃ t,t=w2.heap.size:=⟨_,rfl⟩;have htw:w.heap.size < t:=by omega
  have HxN:Hid (¬ TrS t (.slice none 0 0) (.slice none 0 0) w.heap.size):=zh (by
   rintro (h | h | h)
   ·omega
   ·cases h
   ·cases h)
  clear hT3 hb3 hW3 HL2;go_upto_region 4 with (fail)
  rw [<- HW3.out];rw [<- ht] at HZ HT3 HF3 ⊢;have Ht:=zh ht;have hs3t:t<=W3.heap.size:=by omega
  clear ht;go_wp2_with fail
  refine HZ.out.mono ?_;rintro e4 w4 ⟨rfl,vc,vn,hT4,hF4⟩;have hT5:TrC w4 t t vc vn ((tSs l ts0).back 0):=hT4;have HX4:=zh (hF4.own HX3.out HxN.out);have H0:=zh (HF3.out.trans hF4);have HT:=zh hT5;have hsw:t<=w4.heap.size:=yT hs3t hF4.size
  generalize hgs:(tSs l ts0).back 0=s1 at *
  have Hs2:Hid (znX s1=if 4000 < s1.code.length then s1.fail 3 else s1):=zh rfl
  generalize znX s1=s2 at *
  have HFa:=zh (zpy 3 w4 t t vc vn s1 hT5);obtain ⟨ac,capc,rfl,_,_⟩:=Sl.form (Sl.of_own hT5.code);obtain ⟨an,capn,rfl,_,_⟩:=Sl.form (Sl.of_own hT5.names);have z0:=hT5.blk.cell (i:=0) rfl;clear hgs hT4 hT5 hF4 HX3 HZ HT3 HF3
  have hcl:s1.code.length<=9223372036854775807:=by
   have:=HT.out.code.2;rcases this with ⟨-,h⟩ | ⟨g,cp,cur,hv,-,-,h1,h2,-⟩
   ·omega
   ·unfold maxLen at h2;omega
  by_cases hlong:4000 < s1.code.length
  case' neg =>
   have hli:¬ (s1.code.length:Int) > 4000:=by omega
   have hse:s2=s1:=by rw [Hs2.out,yN hlong]
   clear HFa Hs2;subst hse;have HT2:Hid (TrC w4 t t _ _ s2):=zh HT.out;clear HT;go_upto_region 7 with (fail)
  case' pos =>
   have hli:(s1.code.length:Int) > 4000:=by omega
   go_wp2_with fail
   refine HFa.out.mono ?_;rintro e5 w4 ⟨rfl,vc,vn,hT,hF⟩;have HT2:Hid (TrC w4 t t vc vn s2):=zh (by rw [Hs2.out,yP hlong];exact hT);replace H0:=zh (H0.out.trans hF);replace HX4:=zh (hF.own HX4.out.1 HX4.out.2);replace hsw:=yT hsw hF.size;clear HFa HT hT hF z0 Hs2;obtain ⟨ac,capc,rfl,_,_⟩:=Sl.form (Sl.of_own HT2.out.code);obtain ⟨an,capn,rfl,_,_⟩:=Sl.form (Sl.of_own HT2.out.names);go_upto_region 7 with (fail)
  all_goals
   have z5:=HT2.out.blk.cell (i:=5) rfl;obtain ⟨z0,z1⟩:=yc2 HT2.out.blk;have zf:=HT2.out.blk.free;have hne:w.heap.size≠t:=by omega
   have hB4:Below w.heap.size w w4:=Hb2.out.trans (((H0.out.only).below (B:=w.heap.size) (fun k hk=>by
    rcases hk with rfl | h | h
    ·omega
    ·cases h
    ·cases h) (by omega)))
   have HB4:=zh hB4;have hs4:=hB4.size;clear hB4;by_cases he:s2.e=0
   ·have hq:(s2.e != 0)=false:=by rw [he];rfl
    obtain ⟨hlc,hfc⟩:=Hlaw.out.2 he;have Hfz:Hid (final=.ok ⟨s2.code,(s2.locals:Int),znW 4 s2.code,znW 5 s2.code⟩):=zh (by rw [HF.out,hfc]);have HC:=zh HT2.out.code;have HM:=zh (zrq s2.code _ w4 (Sl.of_own HT2.out.code) (by omega));clear he Hlaw hfc;go_upto_region 9 with (fail)
    go_wp2_with fail
    refine HM.out.mono ?_;rintro e6 w6 ⟨rfl,hb6⟩;have HT6:=zh (HT2.out.grown hb6);have HX6:=zh (HX4.out.1.below hb6 (zr _));have HB6:=zh (HB4.out.trans (hb6.mono hs4));have hs6:=HB6.out.size;obtain ⟨z0,z1,z2,z3⟩:=yc4 HT6.out.blk;have zf:=HT6.out.blk.free;have HO6:=zh HT6.out.blk;clear hb6 HM;have hO7:=(HO6.out.set 2 (.int .u32 (w32 (znW 4 s2.code)))).set 3 (.int .u32 (w32 (znW 5 s2.code)));obtain ⟨W7,hW7,hg7⟩:∃ W7,W7=(w6.setCell ⟨t,2,none⟩ (.int .u32 (w32 (znW 4 s2.code)))).setCell ⟨t,3,none⟩ (.int .u32 (w32 (znW 5 s2.code)))/\w6.grownBy W7 (some t):=⟨_,rfl,zbc (zaY _ _ _ _) (zaY _ _ _ _)⟩;rw [<- hW7] at hO7;have hX7:OwnV W7 w.heap.size 59 [.slice none 0 0,.int .i64 0,.int .u32 0,.int .u32 0]:=HX6.out.grown hg7 (fun e=>by cases e;omega);have HC7:=zh (zn3 hg7 HT6.out.code (fun g hg e=>by cases e;exact HT6.out.tc hg));have HW7:=zh hW7;have HB7:=zh (HB6.out.trans (zbz hg7 (by omega) hs6));have hs7:=HB7.out.size;clear hW7 hg7;go_upto_region 10 with (fail)
    rw [<- HW7.out];obtain ⟨y0,y1,y2,y3⟩:=yc4 hO7;obtain ⟨W9,hW9,hX9,hg9⟩:=set4 hX7 (.slice ac s2.code.length capc) (.int .i64 s2.locals) (.int .u32 (w32 (znW 4 s2.code))) (.int .u32 (w32 (znW 5 s2.code)));obtain ⟨x0,x1,x2,x3⟩:=yc4 hX7;have xf:=hX7.free;have HW9:=zh hW9;have HX9:=zh hX9;have Hg9:=zh hg9;clear hW9 hX9 hg9 z0 z1 z2 z3;go_wp2_with fail
    rw [<- HW9.out];obtain ⟨v0,v1,v2,v3⟩:=yc4 HX9.out;refine yE (v:=.tuple #[zow ⟨s2.code,(s2.locals:Int),znW 4 s2.code,znW 5 s2.code⟩ (.slice ac s2.code.length capc),.int .i64 0]) (by simp [results,Tryz.results33,go_sem,v0,v1,v2,v3,zow]) rfl ?_;rw [Hfz.out];exact ⟨⟨_,rfl,znE (zn3 Hg9.out HC7.out (fun g hg e=>by cases e;have:=(HC7.out.lt _ hg).1;omega)) (by omega)⟩,HB7.out.trans (zbz Hg9.out (by omega) hs7)⟩
   ·have hq:(s2.e != 0)=true:=by rw [bne_iff_ne];exact he
    obtain ⟨hfc,hek⟩:=Hlaw.out.1 he;have Hfz:Hid (final=.err s2.e):=zh (by rw [HF.out,hfc]);have Hek:=zh hek;obtain ⟨x0,x1,x2,x3⟩:=yc4 HX4.out.1;have xf:=HX4.out.1.free;clear he Hlaw hfc hek;obtain ⟨W9,hW9,hX9,hg9⟩:=set4 HX4.out.1 (.slice none 0 0) (.int .i64 0) (.int .u32 0) (.int .u32 0);have HW9:=zh hW9;have HX9:=zh hX9;have Hg9:=zh hg9;clear hW9 hX9 hg9;go_wp2_with fail
    go_region_with (fail)
    all_goals
     go_wp2_with fail
     rw [<- HW9.out];obtain ⟨v0,v1,v2,v3⟩:=yc4 HX9.out.drew;refine yE (v:=.tuple #[zpM,.int .i64 s2.e]) (by simp [results,Tryz.results33,go_sem,v0,v1,v2,v3,zpM]) rfl ?_;rw [Hfz.out];exact ⟨⟨rfl,Hek.out⟩,(HB4.out.trans (zbz Hg9.out (by omega) hs4)).drew⟩

theorem zeM {w:World} {m:Nat} {xs:List St} {v:Value} (h:∃ cs,w.ownsRow m 184 6 v xs.length cs/\StsC w (fun g=>m<=g) xs cs):SsL w w.heap.size xs v:=by
 obtain ⟨cs,hR,hX⟩:=h;exact ⟨cs,Sl.of_own hR,.inr fun g e=>(hR.lt g e).2,hX.weak fun g hg _=>hg⟩
theorem zp9 (w:World):(zeroValue 105).run Tryz.prog w=.ok zoH w:=by kernel_rfl
theorem Prs.put {w w':World} {bm n m:Nat} {S:ScS} {vc:Value} {key:List UInt8} (h0:bm < m) {has:List UInt8->Bool} {val:List UInt8->Value}
  (hk:∀ k,(has k=true->∃ vc,val k=scV (znC k) vc/\CodeV m w (znC k).prog.code vc)/\(has k=false->val k=zoH)) (hS:znC key=S) (ho:Only (fun g=>g=bm) w w')
  (hV:VMap w' bm n (fun k=>if k=key then true else has k) (fun k=>if k=key then scV S vc else val k) zoH) (hc:CodeV m w' S.prog.code vc):Prs w' bm n m:=by
 refine ⟨h0,_,_,hV,fun k=>?_⟩;by_cases e:k=key
 ·subst e;simp only [if_true];exact ⟨fun _=>⟨vc,by rw [hS],by rw [hS];exact hc⟩,fun h=>by cases h⟩
 ·simp only [yN e];refine ⟨fun h=>?_,(hk k).2⟩;obtain ⟨v,h1,h2⟩:=(hk k).1 h;exact ⟨v,h1,h2.only ho fun g hg=>by subst hg;exact h0⟩
theorem open7 (w:World) (bm:Nat) (a:Value):∃ W0,W0=((w.alloc (.cells #[.map (some bm)] 99)).alloc (.cells #[.slice none 0 0,.int .i64 0,.int .u32 0,.int .u32 0,.int .i64 0,.int .i64 0,.int .i64 0] 105))/\Below w.heap.size w W0/\OwnV W0 w.heap.size 99 [.map (some bm)]/\OwnV W0 (w.heap.size+1) 105 [.slice none 0 0,.int .i64 0,.int .u32 0,.int .u32 0,.int .i64 0,.int .i64 0,.int .i64 0]/\W0.heap.size=w.heap.size+2:=
 ⟨_,rfl,((yR _ _).alloc (zr _) _).alloc (by simp) _,(OwnV.new _ _ _).alloc _,OwnV.newAt (by simp) _ _,by simp⟩
theorem set7 {S:Nat->Prop} {w0 w:World} {g:Nat} {e:TypeId} {a0 a1 a2 a3 a4 a5 a6:Value} (hb:Only S w0 w) (h:OwnV w g e [a0,a1,a2,a3,a4,a5,a6]) (hg:w0.heap.size<=g) (v0 v1 v2 v3 v4 v5 v6:Value) :
  ∃ W',W'=((((((w.setCell ⟨g,0,none⟩ v0).setCell ⟨g,1,none⟩ v1).setCell ⟨g,2,none⟩ v2).setCell ⟨g,3,none⟩ v3).setCell ⟨g,4,none⟩ v4).setCell ⟨g,5,none⟩ v5).setCell ⟨g,6,none⟩ v6/\Only S w0 W'/\OwnV W' g e [v0,v1,v2,v3,v4,v5,v6]/\W'.heap.size=w.heap.size/\Only (fun k=>k=g) w W':=
 ⟨_,rfl,((((((hb.setNew hg _).setNew hg _).setNew hg _).setNew hg _).setNew hg _).setNew hg _).setNew hg _,((((((h.set 0 v0).set 1 v1).set 2 v2).set 3 v3).set 4 v4).set 5 v5).set 6 v6,by simp,((((((((Only.refl (fun k=>k=g) w)).setIn rfl _).setIn rfl _).setIn rfl _).setIn rfl _).setIn rfl _).setIn rfl _).setIn rfl _⟩
theorem Only.trans' {S:Nat->Prop} {a b c:World} (h:Only S a b) (k:Only S b c):Only S a c:=h.trans k
theorem Only.of_below' {S:Nat->Prop} {w w':World} {B:Nat} (h:Below B w w') (hB:w.heap.size<=B):Only S w w':=Only.of_below (h.mono hB)
theorem zqK {w:World} {bm n m:Nat} (hG:Glob w) (hP:Prs w bm n m) (hm:m<=w.heap.size) (hn:n<=100000) (s:ByteArray) (hs:s.size<=9223372036854775807) :
  Calls Tryz.prog 50 #[.agg #[.map (some bm)],.string s] w fun e w'=>(∃ vc,e=.returned (scV (znC s.data.toList) vc)/\CodeV m w' (znC s.data.toList).prog.code vc)/\Prs w' bm (n+1) m/\Only (fun g=>g=bm) w w':=by
 have HP:=zh hP;obtain ⟨h0,has,val,hV,hk⟩:=hP;have hk1:=hk s.data.toList;obtain ⟨q,hq⟩:∃ q,has s.data.toList=q:=⟨_,rfl⟩;obtain ⟨W0,hW0,hb0,hX0,hY0,hs0⟩:=open7 w bm (.int .i64 0);have HV:=zh (hV.below hb0 (zr _));have HW0:=zh hW0;have HY0:=zh hY0;have Hb0:=zh hb0
 cases q with
 | true =>
  obtain ⟨vc,e1,hc⟩:=hk1.1 hq;have Hc:=zh hc;obtain ⟨a,cap,rfl,-,-⟩:=Sl.form hc.1
  generalize znC s.data.toList=S at *
  obtain ⟨⟨code,loc,rd,wr⟩,line,col,er⟩:=S;simp only [scV] at e1;have x0:=hX0.cell (i:=0) rfl;clear hW0 hY0 hV hk hk1 hc hb0 hG;go_enter Tryz.func50,Tryz.ntmps50
  go_upto_region 1 with (fail)
  rw [<- HW0.out];obtain ⟨W1,hW1,hb1,hZ1,hs1⟩:∃ W1,W1=W0.alloc (.cells #[.slice a code.length cap,.int .i64 loc,.int .u32 (w32 rd),.int .u32 (w32 wr),.int .i64 line,.int .i64 col,.int .i64 er] 105)/\Below W0.heap.size W0 W1/\OwnV W1 (w.heap.size+2) 105 [.slice a code.length cap,.int .i64 loc,.int .u32 (w32 rd),.int .u32 (w32 wr),.int .i64 line,.int .i64 col,.int .i64 er]/\W1.heap.size=w.heap.size+3:=⟨_,rfl,(yR _ _).alloc (zr _) _,OwnV.newAt hs0.symm _ _,by simp;omega⟩;have HY1:=zh (HY0.out.below hb1 (zr _));have HB1:=zh (Hb0.out.trans (hb1.mono (by omega)));have HW1:=zh hW1;have HZ1:=zh hZ1;clear hW1 hb1 hZ1;go_upto_region 2 with (at_lookup;refine zoW rfl _ _ 97 105 rfl Tryz.underlying97 (zp9 _) HV.out rfl _ rfl hs ?_;rw [e1,hq])
  rw [<- HW1.out];obtain ⟨y0,y1,y2,y3,y4,y5,y6⟩:=yc7 HY1.out;have yf:=HY1.out.free;obtain ⟨z0,z1,z2,z3,z4,z5,z6⟩:=yc7 HZ1.out;obtain ⟨W2,hW2,hO2,hY2,hs2,-⟩:=set7 (S:=fun _=>False) (Only.of_below HB1.out) HY1.out (by omega) (.slice a code.length cap) (.int .i64 loc) (.int .u32 (w32 rd)) (.int .u32 (w32 wr)) (.int .i64 line) (.int .i64 col) (.int .i64 er);have HW2:=zh hW2;have HY2:=zh hY2;have HO2:=zh hO2;clear hW2 hY2 hO2;go_wp2_with fail
  rw [<- HW2.out];obtain ⟨u0,u1,u2,u3,u4,u5,u6⟩:=yc7 HY2.out;refine yE (v:=.agg #[.slice a code.length cap,.int .i64 loc,.int .u32 (w32 rd),.int .u32 (w32 wr),.int .i64 line,.int .i64 col,.int .i64 er]) (by simp [results,Tryz.results50,go_sem,u0,u1,u2,u3,u4,u5,u6]) rfl ⟨⟨_,rfl,?_⟩,(HP.out.only HO2.out (fun _ h=>h.elim)).mono (by omega),HO2.out.mono (fun _ _ h=>h.elim)⟩
  exact Hc.out.only HO2.out (fun _ h=>h.elim)
 | false =>
  have hz:val s.data.toList=zoH:=hk1.2 hq;have Hk:=zh hk;unfold zoH at hz;obtain ⟨W1,hW1,hb1,hZ1,hs1⟩:∃ W1,W1=W0.alloc (.cells #[.slice none 0 0,.int .i64 0,.int .u32 0,.int .u32 0,.int .i64 0,.int .i64 0,.int .i64 0] 105)/\Below W0.heap.size W0 W1/\OwnV W1 (w.heap.size+2) 105 [.slice none 0 0,.int .i64 0,.int .u32 0,.int .u32 0,.int .i64 0,.int .i64 0,.int .i64 0]/\W1.heap.size=w.heap.size+3:=⟨_,rfl,(yR _ _).alloc (zr _) _,OwnV.newAt hs0.symm _ _,by simp;omega⟩;have HB1:=zh (Hb0.out.trans (hb1.mono (by omega)));have HY1:=zh (HY0.out.below hb1 (zr _));have HX1:=zh (hX0.below hb1 (zr _));have HV1:=zh (HV.out.below hb1 (zr _));have HPa:=zh (zbP (hG.below HB1.out hG.size) s hs);have hbm:=HP.out.lt;have x0:=hX0.cell (i:=0) rfl;have HW1:=zh hW1;have HZ1:=zh hZ1;clear hW1 hb1 hZ1 hX0 hW0 hY0 hV hk hk1 hb0 hG;go_enter Tryz.func50,Tryz.ntmps50
  go_upto_region 1 with (fail)
  rw [<- HW0.out];go_upto_region 2 with (at_lookup;refine zoW rfl _ _ 97 105 rfl Tryz.underlying97 (zp9 _) HV.out rfl _ rfl hs ?_;rw [hz,hq])
  rw [<- HW1.out];clear x0;go_wp2_with fail
  go_at_call 27;refine HPa.out.mono ?_;rintro e1 w1 ⟨he1,hb1⟩;have hs11:=hb1.size;have HO1:Hid (Only (fun g=>g=bm) w w1):=zh (Only.of_below (HB1.out.trans (hb1.mono (by omega))));have HX1:=zh (HX1.out.below hb1 (zr _));have HY1:=zh (HY1.out.below hb1 (zr _));have HZ1:=zh (HZ1.out.below hb1 (zr _));have HV1:=zh (HV1.out.below hb1 (zr _));clear hb1 HPa
  cases hp:zbg s.data.toList with
  | err la ca ea =>
   rw [hp] at he1;obtain ⟨rfl,hea⟩:=he1;have hS:=zpI hp;have hea2:(ea == 0)=false:=by simpa using hea
   have Hea:=zh hea;clear hea;obtain ⟨z0,z1,z2,z3,z4,z5,z6⟩:=yc7 HZ1.out;have zf:=HZ1.out.free;obtain ⟨W2,hW2,hO2,hZ2,hs2,hO2b⟩:=set7 HO1.out HZ1.out (by omega) (.slice none 0 0) (.int .i64 0) (.int .u32 0) (.int .u32 0) (.int .i64 la) (.int .i64 ca) (.int .i64 ea);have HX2:=zh (hO2b.own HX1.out (by omega));have HY2:=zh (hO2b.own HY1.out (by omega));have HV2:=zh (HV1.out.only hO2b (by omega));have HW2:=zh hW2;have HO2:=zh hO2;have HZ2:=zh hZ2;clear hW2 hO2 hZ2 hO2b;go_upto_region 6 with (fail)
   rw [<- HW2.out];clear z0 z1 z2 z3 z4 z5 z6 zf;go_upto_region 8 with (fail)
   -- the entry, and the result
   have x0:=HX2.out.cell (i:=0) rfl;obtain ⟨z0,z1,z2,z3,z4,z5,z6⟩:=yc7 HZ2.out;have zf:=HZ2.out.free;obtain ⟨V,hVd⟩:∃ V:Value,V=.agg #[.slice none 0 0,.int .i64 0,.int .u32 0,.int .u32 0,.int .i64 la,.int .i64 ca,.int .i64 ea]:=⟨_,rfl⟩;have HVd:=zh hVd;clear hVd;go_upto_region 9 with (at_mapUpdate;refine zov rfl _ _ _ 97 105 rfl Tryz.underlying97 HV2.out rfl _ (.agg #[.slice none 0 0,.int .i64 0,.int .u32 0,.int .u32 0,.int .i64 la,.int .i64 ca,.int .i64 ea]) rfl rfl hs (by unfold maxLen;omega) ?_;intro w8 hV8 hg8;have HV8:=zh hV8;have Hg8:=zh hg8;clear hV8 hg8)
   have HY8:=zh (HY2.out.grown Hg8.out (by simp;omega));have HZ8:=zh (HZ2.out.grown Hg8.out (by simp;omega));have HO8:Hid (Only (fun g=>g=bm) w w8):=zh (HO2.out.trans' (Only.of_grown (S:=fun g=>g=bm) Hg8.out (fun r e=>by cases e;rfl)));clear x0 z0 z1 z2 z3 z4 z5 z6 zf;obtain ⟨y0,y1,y2,y3,y4,y5,y6⟩:=yc7 HY8.out;have yf:=HY8.out.free;obtain ⟨z0,z1,z2,z3,z4,z5,z6⟩:=yc7 HZ8.out;have zf:=HZ8.out.free;obtain ⟨W9,hW9,hO9,hY9,hs9,hO9b⟩:=set7 HO8.out HY8.out (by omega) (.slice none 0 0) (.int .i64 0) (.int .u32 0) (.int .u32 0) (.int .i64 la) (.int .i64 ca) (.int .i64 ea);have HW9:=zh hW9;have HY9:=zh hY9;have HO9:=zh hO9;have HO9b:=zh hO9b;clear hW9 hY9 hO9 hO9b;go_wp2_with fail
   rw [<- HW9.out];obtain ⟨u0,u1,u2,u3,u4,u5,u6⟩:=yc7 HY9.out;have hcode:CodeV m W9 [] (.slice none 0 0):=CodeV.nil m W9;refine yE (v:=.agg #[.slice none 0 0,.int .i64 0,.int .u32 0,.int .u32 0,.int .i64 la,.int .i64 ca,.int .i64 ea]) (by simp [results,Tryz.results50,go_sem,u0,u1,u2,u3,u4,u5,u6]) rfl ⟨⟨_,by rw [hS];rfl,by rw [hS];exact hcode⟩,?_,HO9.out⟩
   exact Prs.put h0 Hk.out hS HO9.out (HV8.out.only HO9b.out (by omega)) hcode
  | ok l =>
   rw [hp] at he1;obtain ⟨v,rfl,cs,hR,hT⟩:=he1;obtain ⟨hok,hsz⟩:=zq8 hp;obtain ⟨z0,z1,z2,z3,z4,z5,z6⟩:=yc7 HZ1.out;have zf:=HZ1.out.free;obtain ⟨W2,hW2,hO2,hZ2,hs2,hO2b⟩:=set7 HO1.out HZ1.out (by omega) (.slice none 0 0) (.int .i64 0) (.int .u32 0) (.int .u32 0) (.int .i64 0) (.int .i64 0) (.int .i64 0);have hL:SsL W2 W2.heap.size l v:=zeM ⟨cs,hO2b.row hR (fun g hg e=>by have:=(hR.lt g hg).1;omega),hT.only hO2b (fun b hb e=>by omega)⟩;have HC:=zh (zrX l v W2 W2.heap.size hok hsz hL (zr _));obtain ⟨av,cv,rfl,-,-⟩:=hL.form;have HX2:=zh (hO2b.own HX1.out (by omega));have HY2:=zh (hO2b.own HY1.out (by omega));have HV2:=zh (HV1.out.only hO2b (by omega));have HW2:=zh hW2;have HO2:=zh hO2;have HZ2:=zh hZ2;clear hW2 hO2 hZ2 hO2b hR hT hL hok hsz;go_upto_region 6 with (fail)
   rw [<- HW2.out];clear z0 z1 z2 z3 z4 z5 z6 zf;go_upto_region 7 with (fail)
   go_wp2_with fail
   go_at_call 33;refine HC.out.mono ?_;rintro e3 w3 ⟨he3,hb3⟩;have hs3:=hb3.size;have HO3:Hid (Only (fun g=>g=bm) w w3):=zh (HO2.out.trans (Only.of_below' hb3 (by omega)));have HX3:=zh (HX2.out.below hb3 (zr _));have HY3:=zh (HY2.out.below hb3 (zr _));have HZ3:=zh (HZ2.out.below hb3 (zr _));have HV3:=zh (HV2.out.below hb3 (zr _));clear hb3 HC HX2 HY2 HZ2 HV2
   cases hc:zol l with
   | err ka =>
    rw [hc] at he3;obtain ⟨rfl,-⟩:=he3;unfold zpM;have hS:=zpW hp hc;obtain ⟨z0,z1,z2,z3,z4,z5,z6⟩:=yc7 HZ3.out;have zf:=HZ3.out.free
    obtain ⟨W2,hW2,hO2b,hZ2⟩:∃ W2,W2=((((w3.setCell ⟨w.heap.size+2,0,none⟩ (.slice none 0 0)).setCell ⟨w.heap.size+2,1,none⟩ (.int .i64 0)).setCell ⟨w.heap.size+2,2,none⟩ (.int .u32 0)).setCell ⟨w.heap.size+2,3,none⟩ (.int .u32 0)).setCell ⟨w.heap.size+2,6,none⟩ (.int .i64 ka)/\Only (fun g=>g=w.heap.size+2) w3 W2/\OwnV W2 (w.heap.size+2) 105 [.slice none 0 0,.int .i64 0,.int .u32 0,.int .u32 0,.int .i64 0,.int .i64 0,.int .i64 ka]:=
     ⟨_,rfl,(((((Only.refl (fun k=>k=w.heap.size+2) w3).setIn rfl _).setIn rfl _).setIn rfl _).setIn rfl _).setIn rfl _,((((HZ3.out.set 0 _).set 1 _).set 2 _).set 3 _).set 6 _⟩
    have HO2:Hid (Only (fun g=>g=bm) w W2):=zh (HO3.out.transNew hO2b (fun k e=>.inr (by omega)));have HX2:=zh (hO2b.own HX3.out (by omega));have HY2:=zh (hO2b.own HY3.out (by omega));have HV2:=zh (HV3.out.only hO2b (by omega));have HO2b:=zh hO2b;have HW2:=zh hW2;have HZ2:=zh hZ2;have hs2:=hO2b.size;clear hW2 hZ2 hO2b;go_upto_region 8 with (fail)
    rw [<- HW2.out];clear z0 z1 z2 z3 z4 z5 z6 zf
    -- the entry, and the result
    have x0:=HX2.out.cell (i:=0) rfl;obtain ⟨z0,z1,z2,z3,z4,z5,z6⟩:=yc7 HZ2.out;have zf:=HZ2.out.free;obtain ⟨V,hVd⟩:∃ V:Value,V=.agg #[.slice none 0 0,.int .i64 0,.int .u32 0,.int .u32 0,.int .i64 0,.int .i64 0,.int .i64 ka]:=⟨_,rfl⟩;have HVd:=zh hVd;clear hVd;go_upto_region 9 with (at_mapUpdate;refine zov rfl _ _ _ 97 105 rfl Tryz.underlying97 HV2.out rfl _ (.agg #[.slice none 0 0,.int .i64 0,.int .u32 0,.int .u32 0,.int .i64 0,.int .i64 0,.int .i64 ka]) rfl rfl hs (by unfold maxLen;omega) ?_;intro w8 hV8 hg8;have HV8:=zh hV8;have Hg8:=zh hg8;clear hV8 hg8)
    have HY8:=zh (HY2.out.grown Hg8.out (by simp;omega));have HZ8:=zh (HZ2.out.grown Hg8.out (by simp;omega));have HO8:Hid (Only (fun g=>g=bm) w w8):=zh (HO2.out.trans' (Only.of_grown (S:=fun g=>g=bm) Hg8.out (fun r e=>by cases e;rfl)));clear x0 z0 z1 z2 z3 z4 z5 z6 zf;obtain ⟨y0,y1,y2,y3,y4,y5,y6⟩:=yc7 HY8.out;have yf:=HY8.out.free;obtain ⟨z0,z1,z2,z3,z4,z5,z6⟩:=yc7 HZ8.out;have zf:=HZ8.out.free;obtain ⟨W9,hW9,hO9,hY9,hs9,hO9b⟩:=set7 HO8.out HY8.out (by omega) (.slice none 0 0) (.int .i64 0) (.int .u32 0) (.int .u32 0) (.int .i64 0) (.int .i64 0) (.int .i64 ka);have HW9:=zh hW9;have HY9:=zh hY9;have HO9:=zh hO9;have HO9b:=zh hO9b;clear hW9 hY9 hO9 hO9b;go_wp2_with fail
    rw [<- HW9.out];obtain ⟨u0,u1,u2,u3,u4,u5,u6⟩:=yc7 HY9.out;have hcode:CodeV m W9 [] (.slice none 0 0):=CodeV.nil m W9;refine yE (v:=.agg #[.slice none 0 0,.int .i64 0,.int .u32 0,.int .u32 0,.int .i64 0,.int .i64 0,.int .i64 ka]) (by simp [results,Tryz.results50,go_sem,u0,u1,u2,u3,u4,u5,u6]) rfl ⟨⟨_,by rw [hS];rfl,by rw [hS];exact hcode⟩,?_,HO9.out⟩
    exact Prs.put h0 Hk.out hS HO9.out (HV8.out.only HO9b.out (by omega)) hcode
   | ok P =>
    rw [hc] at he3;obtain ⟨vp,rfl,hC⟩:=he3;obtain ⟨ap,cp,rfl,-,-⟩:=Sl.form hC.sl;unfold zow;have hS:=zpX hp hc;have HC:=zh hC;clear hC;obtain ⟨z0,z1,z2,z3,z4,z5,z6⟩:=yc7 HZ3.out;have zf:=HZ3.out.free
    obtain ⟨W2,hW2,hO2b,hZ2⟩:∃ W2,W2=((((w3.setCell ⟨w.heap.size+2,0,none⟩ (.slice ap P.code.length cp)).setCell ⟨w.heap.size+2,1,none⟩ (.int .i64 P.locals)).setCell ⟨w.heap.size+2,2,none⟩ (.int .u32 (w32 P.reads))).setCell ⟨w.heap.size+2,3,none⟩ (.int .u32 (w32 P.writes))).setCell ⟨w.heap.size+2,6,none⟩ (.int .i64 0)/\Only (fun g=>g=w.heap.size+2) w3 W2/\OwnV W2 (w.heap.size+2) 105 [.slice ap P.code.length cp,.int .i64 P.locals,.int .u32 (w32 P.reads),.int .u32 (w32 P.writes),.int .i64 0,.int .i64 0,.int .i64 0]:=
     ⟨_,rfl,(((((Only.refl (fun k=>k=w.heap.size+2) w3).setIn rfl _).setIn rfl _).setIn rfl _).setIn rfl _).setIn rfl _,((((HZ3.out.set 0 _).set 1 _).set 2 _).set 3 _).set 6 _⟩
    have HO2:Hid (Only (fun g=>g=bm) w W2):=zh (HO3.out.transNew hO2b (fun k e=>.inr (by omega)));have HX2:=zh (hO2b.own HX3.out (by omega));have HY2:=zh (hO2b.own HY3.out (by omega));have HV2:=zh (HV3.out.only hO2b (by omega));have HO2b:=zh hO2b;have HW2:=zh hW2;have HZ2:=zh hZ2;have hs2:=hO2b.size;clear hW2 hZ2 hO2b;go_upto_region 8 with (fail)
    rw [<- HW2.out];clear z0 z1 z2 z3 z4 z5 z6 zf
    -- the entry, and the result
    have x0:=HX2.out.cell (i:=0) rfl;obtain ⟨z0,z1,z2,z3,z4,z5,z6⟩:=yc7 HZ2.out;have zf:=HZ2.out.free;obtain ⟨V,hVd⟩:∃ V:Value,V=.agg #[.slice ap P.code.length cp,.int .i64 P.locals,.int .u32 (w32 P.reads),.int .u32 (w32 P.writes),.int .i64 0,.int .i64 0,.int .i64 0]:=⟨_,rfl⟩;have HVd:=zh hVd;clear hVd;go_upto_region 9 with (at_mapUpdate;refine zov rfl _ _ _ 97 105 rfl Tryz.underlying97 HV2.out rfl _ (.agg #[.slice ap P.code.length cp,.int .i64 P.locals,.int .u32 (w32 P.reads),.int .u32 (w32 P.writes),.int .i64 0,.int .i64 0,.int .i64 0]) rfl rfl hs (by unfold maxLen;omega) ?_;intro w8 hV8 hg8;have HV8:=zh hV8;have Hg8:=zh hg8;clear hV8 hg8)
    have HY8:=zh (HY2.out.grown Hg8.out (by simp;omega));have HZ8:=zh (HZ2.out.grown Hg8.out (by simp;omega));have HO8:Hid (Only (fun g=>g=bm) w w8):=zh (HO2.out.trans' (Only.of_grown (S:=fun g=>g=bm) Hg8.out (fun r e=>by cases e;rfl)));clear x0 z0 z1 z2 z3 z4 z5 z6 zf;obtain ⟨y0,y1,y2,y3,y4,y5,y6⟩:=yc7 HY8.out;have yf:=HY8.out.free;obtain ⟨z0,z1,z2,z3,z4,z5,z6⟩:=yc7 HZ8.out;have zf:=HZ8.out.free;obtain ⟨W9,hW9,hO9,hY9,hs9,hO9b⟩:=set7 HO8.out HY8.out (by omega) (.slice ap P.code.length cp) (.int .i64 P.locals) (.int .u32 (w32 P.reads)) (.int .u32 (w32 P.writes)) (.int .i64 0) (.int .i64 0) (.int .i64 0);have HW9:=zh hW9;have HY9:=zh hY9;have HO9:=zh hO9;have HO9b:=zh hO9b;clear hW9 hY9 hO9 hO9b;go_wp2_with fail
    rw [<- HW9.out];obtain ⟨u0,u1,u2,u3,u4,u5,u6⟩:=yc7 HY9.out
    have hcode:CodeV m W9 P.code (.slice ap P.code.length cp):=by
     have k1:CodeV m w3 P.code (.slice ap P.code.length cp):=CodeV.of_own HC.out (by omega);have k2:CodeV m W2 P.code (.slice ap P.code.length cp):=k1.only2 HO2b.out (fun g e=>by subst e;exact HZ3.out.noCode (by decide) m);have k3:CodeV m w8 P.code (.slice ap P.code.length cp):=k2.only (Only.of_grown (S:=fun g=>g=bm) Hg8.out (fun r e=>by cases e;rfl)) (fun g e=>by subst e;exact h0);exact k3.only2 HO9b.out (fun g e=>by subst e;exact HY8.out.noCode (by decide) m)
    refine yE (v:=.agg #[.slice ap P.code.length cp,.int .i64 P.locals,.int .u32 (w32 P.reads),.int .u32 (w32 P.writes),.int .i64 0,.int .i64 0,.int .i64 0]) (by simp [results,Tryz.results50,go_sem,u0,u1,u2,u3,u4,u5,u6]) rfl ⟨⟨_,by rw [hS];rfl,by rw [hS];exact hcode⟩,?_,HO9.out⟩;exact Prs.put h0 Hk.out hS HO9.out (HV8.out.only HO9b.out (by omega)) hcode
end Go.Proofs.YtdhikpkecmaplaaGreatDoor

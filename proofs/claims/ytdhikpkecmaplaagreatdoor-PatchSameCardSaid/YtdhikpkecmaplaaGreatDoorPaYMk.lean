/- The program's parser: statement, all cases; program, walked. -/
import Derived.Test.YtdhikpkecmaplaaGreatDoorBackSMk
import Derived.Test.YtdhikpkecmaplaaGreatDoorPaRMk
set_option linter.unusedSimpArgs false
set_option linter.unusedVariables false
set_option maxRecDepth 100000
set_option maxHeartbeats 2000000
namespace Go.Proofs.YtdhikpkecmaplaaGreatDoor
open Go.RowKit

theorem zlD {l:List Tok} {p:Nat} {v:Value} (hE:PEnv l):∀ (f i o:Nat) (w:World),l.length - i < f->o<=300->PSt w p v l i o ->
  Calls Tryz.prog 107 #[.pointer (some ⟨p,0,none⟩)] w (RdE l p v o w (StN w.heap.size) (zan l f i o)):=by
 intro f
 induction f with
 | zero=>intro i o w h;omega
 | succ f ih =>
  intro i o w hf ho h;have hX:∀ i' o' W,i < i'->o'<=300->PSt W p v l i' o'->Calls Tryz.prog 107 #[.pointer (some ⟨p,0,none⟩)] W (RdE l p v o' W (StN W.heap.size) (zan l f i' o')):=fun i' o' W hi ho' hP=>ih i' o' W (by have:=hP.here;omega) ho' hP
  exact pstmt_step h hE ho f (fun hb W hP=>zi2 hE (zan l f) (zdK l f) (l.length+1 - i) i o W (by have:=hP.here;omega) ho hP hb hX)
   (fun j W hj hP=>zgp hP hE ho (zan l f) (fun i' W' hi' ho2 hP'=>hX i' (o+1) W' (by omega) (by omega) hP') (zdK l f))
theorem zki {l:List Tok} {p:Nat} {v:Value} {i o:Nat} {w:World} (h:PSt w p v l i o) (hE:PEnv l) (ho:o<=300) :
  Calls Tryz.prog 107 #[.pointer (some ⟨p,0,none⟩)] w (RdE l p v o w (StN w.heap.size) (zcJ l i o)):=zlD hE (l.length+1 - i) i o w (by have:=h.here;omega) ho h
theorem zio {w:World} {p:Nat} {v:Value} {l:List Tok} {i:Nat} (h:PSt w p v l i 0) (hE:PEnv l) :
  Calls Tryz.prog 68 #[.pointer (some ⟨p,0,none⟩)] w (RdE l p v 0 w (TsV w.heap.size) (allS l (l.length+1 - i) [] i)):=by
 have hlt:=h.lt;have hv:=zao h;have hil:=h.here;have hsm:=hE.small;have H:=zh h;obtain ⟨final,hfin⟩:∃ r,allS l (l.length+1 - i) [] i=r:=⟨_,rfl⟩;have Hf:=zh hfin;rw [hfin];have f0:=zgk;clear h hfin;go_enter Tryz.func68,Tryz.ntmps68
 go_wp2_with fail
 go_loopg [3,4,5,6,7,8,9,10,11,12] (l.length - i) (fun g t3 _ _ _ _ _ _ _ _ _ wr=>∃ (k i' F:Nat) (xs:List St) (cs:List Value),g=l.length - i'/\i' < l.length/\l.length - i' < F/\xs.length=k/\k<=i'/\Hid (PSt wr p v l i' 0)/\Hid (wr.ownsRow w.heap.size 184 6 t3 k cs)/\Hid (StsC wr (fun b=>w.heap.size<=b/\t3.ownBlock≠some b) xs cs)/\Hid (allS l F xs i'=final)/\Hid (Turns p w wr))
 case atStart=>exact ⟨0,i,l.length+1 - i,[],[],rfl,hil,by omega,rfl,by omega,H,zh (World.ownsRow_nil _ _ _ _),zh .nil,Hf,zh (Only.refl _ _)⟩
 case round =>
  clear H Hf;obtain ⟨k,i',F,xs,cs,rfl,hil2,hF,hxs,hki,HP0,HR0,HX0,Hf,HT0⟩:=hrel;obtain ⟨F,rfl⟩:∃ F',F=F'+1:=⟨F - 1,by omega⟩;have Hf1:Hid ((if (zaa l i').kind=4 then .ok xs i' else (zcJ l i' 0).andThen fun x j=>allS l F (xs++[x]) j)=final):=zh (by rw [<- Hf.out,allS]);have HN:=zh (zaQ HP0.out hE);have HS:Hid (∀ W,PSt W p v l i' 0->Calls Tryz.prog 107 #[.pointer (some ⟨p,0,none⟩)] W (RdE l p v 0 W (StN W.heap.size) (zcJ l i' 0))):=zh (fun W hP=>zki hP hE (by omega));have hmn:∀ x j,zcJ l i' 0=.ok x j->i' < j:=fun x j e=>zdK l _ _ _ _ _ e
  obtain ⟨q,hq⟩:∃ q,((zaa l i').kind != 4)=q:=⟨_,rfl⟩;have Hf2:Hid ((q=false->.ok xs i'=final)/\(q=true->(zcJ l i' 0).andThen (fun x j=>allS l F (xs++[x]) j)=final)):=zh ⟨fun e=>by rw [<- Hf1.out,yP (by rw [e] at hq;simpa using hq)],fun e=>by rw [<- Hf1.out,yN (by rw [e] at hq;simpa using hq)]⟩;obtain ⟨ua,cap,rfl,-,-⟩:=Sl.form (Sl.of_own HR0.out);clear Hf Hf1
  generalize zaa l i'=T at *
  generalize zcJ l i' 0=R at *
  go_wp2_with fail
  go_at_call 105;refine HN.out.mono ?_;rintro e1 w2 ⟨rfl,hb2⟩;have HP:=zh (HP0.out.below hb2);have HR:=zh (zbu HR0.out hb2 (zr _));have HXs:=zh (HX0.out.under hb2 (zr _));have HT:=zh (HT0.out.trans (Only.of_below hb2));have hsz2:=HT.out.size;clear HP0 HR0 HX0 HT0 HN hb2
  cases q with
  | false =>
   have Hf3:=zh (Hf2.out.1 rfl);clear Hf2;go_wp2_with fail
   rw [<- Hf3.out]
   refine yE (v:=.slice ua k cap) (by simp [results,Tryz.results68,go_sem]) rfl ⟨_,rfl,⟨cs,by rw [hxs];exact HR.out,HXs.out⟩,HP.out,HT.out⟩
  | true =>
   have Hf3:=zh (Hf2.out.2 rfl);clear Hf2;go_wp2_with fail
   go_at_call 107;refine (HS.out _ HP.out).mono ?_;intro e5 w5 he5;clear HS
   cases R with
   | err a c =>
    obtain ⟨he5,hT5⟩:=he5;unfold Bad at he5;subst he5;have HT5:=zh hT5;have Hf4:Hid (.err a c=final):=Hf3;clear hT5;go_wp2_with fail
    refine ⟨rfl,?_⟩;rw [<- Hf4.out]
    exact ⟨rfl,HT.out.trans HT5.out⟩
   | ok x j2 =>
    have hj12:=hmn x j2 rfl;obtain ⟨op5,n5,name5,es5,bo5,el5⟩:=x;have Hf4:Hid (allS l F (xs++[.mk op5 n5 name5 es5 bo5 el5]) j2=final):=Hf3;obtain ⟨u5,rfl,⟨cs5,rfl,hX5⟩,hP5,hT5⟩:=he5;obtain ⟨ae5,pe5,ab5,pb5,al5,pl5,rfl⟩:=hX5.form1;have hR5:w5.ownsRow w.heap.size 184 6 (.slice ua k cap) k cs:=hT5.row HR.out (fun g hg e=>by have:=(HR.out.lt g hg).1;omega);have hs5:=hT5.size;have hjl:=hP5.here;have hk2:k<=16385:=by omega
    have HX5:=zh hX5;have HP5:=zh hP5;have HT5:=zh hT5;have Hk:=zh (show xs.length=k/\k<=i'/\i' < j2/\l.length - i' < F+1/\j2 < l.length/\w.heap.size<=w2.heap.size from ⟨hxs,hki,hj12,hF,hjl,hsz2⟩);clear hmn Hf3 hX5 hP5 hT5 hxs hki hj12 hF hil hil2 hsm;go_wp2_with (at_builtin;apply zbj (s:=.tmp 8) (x:=.tmp 11) (t:=63) (hown:=hR5) (hi:=zfM) (ht:=Tryz.underlying63) (m:=1) (c:=1);(rfl);(decide);rfl;rfl;rfl;rfl;(unfold maxLen;omega);omega;omega;rotate_left;rfl;rfl;(intro v6 w6 hown6 hg6 hb6 hat6))
    obtain ⟨g6,cap6,rfl,hmg6⟩:=zcd hown6;go_roundg (l.length - j2)
    case measure=>have:=Hk.out;omega
    case rel =>
     have hk5:=Hk.out;have hT6:Only (fun b=>(Value.slice ua k cap).ownBlock=some b) w5 w6:=Only.of_grown hg6 (fun g e=>e);have hlow:∀ g,(Value.slice ua k cap).ownBlock=some g->w.heap.size<=g:=fun g e=>(hR5.lt g e).1
     exact ⟨k+1,j2,F,xs++[.mk op5 n5 name5 es5 bo5 el5],_,rfl,by omega,by omega,by rw [yA,hk5.1];rfl,by omega,zh (HP5.out.only hT6 (fun e=>by have:=hlow _ e;omega) (fun g e e2=>by have:=hlow _ e2;have:=hv g e;omega)),zh hown6,zh (zjF (X:=w5) HR.out HXs.out HT5.out hlt HX5.out hk5.2.2.2.2.2 (yR _ _) hg6 hat6),Hf4,zh ((HT.out.trans HT5.out).transNew hT6 (fun b e=>.inr (hlow _ e)))⟩

theorem zln {w:World} {l:List Tok} {v:Value} {g:Nat} {e:TypeId} {vs:List Value} (hT:Toks w l v) (hl:0 < l.length) (h:OwnV w g e vs) (hv:vs.length < 5):∀ b,v.ownBlock=some b->b≠g:=by
 intro b hb;obtain ⟨a,cap,rfl,-,-⟩:=Sl.form hT;obtain ⟨b',off,rfl,-,-,-,-,c4⟩:=zaF hT hl;cases hb;rintro rfl;unfold OwnV at h;simp only [World.cell?,h,List.getElem?_toArray] at c4;rw [List.getElem?_eq_none (by omega)] at c4;cases c4
def ofRR (r : RR (List St)) : ParR := match r with
  | .ok xs => .ok xs
  | .err a b c => .err a b c
theorem zms (bs:List UInt8):zbg bs=ofRR (zdp bs fun l=>allS l (l.length+1) [] 0):=by
 unfold zbg zdp
 cases lexS bs with
 | err a b c=>rfl
 | ok l =>
  show (match allS l (l.length+1) [] 0 with
   | .ok xs _=>ParR.ok xs
   | .err i c=>.err (zaa l i).line (zaa l i).col c)=ofRR (zeD l (allS l (l.length+1) [] 0))
  cases h:allS l (l.length+1) [] 0 with
  | err i c=>rfl
  | ok xs j=>rw [ze7 (znf _ _ _ _ _ h)];rfl
theorem zgi {bs:List UInt8} {a b c:Int} (h:zbg bs=.err a b c):c≠0:=by
 unfold zbg at h
 cases hl:lexS bs with
 | err a' b' c'=>rw [hl] at h;cases h;exact zd9 hl
 | ok l =>
  rw [hl] at h
  cases ha:allS l (l.length+1) [] 0 with
  | ok xs j=>simp only [ha] at h;cases h
  | err i c' =>
   simp only [ha] at h;cases h;exact (all_cd l _ _ _ _ _ (by omega) (Nat.zero_le _) ha).ne
def PrgE (w w' : World) (e : Ending) : ParR -> Prop
  | .ok xs => ∃ v, e = .returned (.tuple #[v, .int .i64 0, .int .i64 0, .int .i64 0]) /\ (∃ cs, w'.ownsRow w.heap.size 184 6 v xs.length cs /\ StsC w' (fun g => w.heap.size <= g) xs cs)
  | .err a b c => e = .returned (.tuple #[.slice none 0 0, .int .i64 a, .int .i64 b, .int .i64 c]) /\ c ≠ 0
theorem zj3 {W:World} {p gl m:Nat} {v:Value} {l:List Tok} (h:PSt W p v l 0 0) (hE:PEnv l) (hl:OwnV W gl 63 [.slice none 0 0]) (hne:gl≠p) (hm:m<=W.heap.size) :
  Calls Tryz.prog 67 #[.pointer (some ⟨p,0,none⟩),.pointer (some ⟨gl,0,none⟩)] W (OpE l p v 0 (fun b=>b=p∨b=gl) W (TsBox m gl) (allS l (l.length+1) [] 0)):=by
 have HC:=zh (zio h hE);have hvl:=zln h.toks h.here hl (by decide);have Hl:=zh hl;have hglt:=hl.lt;rw [Nat.sub_zero] at HC
 generalize allS l (l.length+1) [] 0=R at *
 clear h hE hl;go_enter Tryz.func67,Tryz.ntmps67
 go_wp2_with fail
 go_at_call 68;refine HC.out.mono ?_;intro e1 w1 he1;clear HC
 cases R with
 | err a c =>
  obtain ⟨he1,hT1⟩:=he1;unfold Bad at he1;subst he1;have HT1:=zh hT1;clear hT1;go_wp2_with fail
  exact ⟨rfl,rfl,HT1.out.mono fun _ _ e=>.inl e⟩
 | ok xs j =>
  obtain ⟨u,rfl,⟨cs,hR,hX⟩,hP,hT⟩:=he1;have HX:Hid (TsV W.heap.size w1 xs u):=zh ⟨cs,hR,hX⟩;obtain ⟨ua,cap,rfl,-,-⟩:=Sl.form (Sl.of_own hR);have hO:=hT.own Hl.out hne;have x0:=hO.cell (i:=0) rfl;have xf:=hO.free;have HO:=zh hO;have HP:=zh hP;have HT:=zh hT;clear hR hX hO hP hT;go_wp2_with fail
  have hW:=(Turns.refl gl w1).set 0 (.slice ua xs.length cap);exact yE (results_none rfl _ _ _) rfl ⟨rfl,⟨_,HO.out.set 0 _,(HX.out.only hW (fun b e=>by omega)).low hm⟩,HP.out.only hW (fun e=>hne e.symm) (fun b hb e=>hvl b hb e),(HT.out.mono fun _ _ e=>.inl e).setCell (.inr (.inr rfl)) _⟩
theorem zho (args:Array Value) (W:World):(callFunc 67 args).run Tryz.prog W=.ok (.enter 67 args) W:=(enters_of (P:=Tryz.prog) Tryz.func67 (by kernel_rfl) rfl) args W
theorem zbP {w:World} (hG:Glob w) (s:ByteArray) (hs:s.size<=9223372036854775807) :
  Calls Tryz.prog 27 #[.string s] w fun e w'=>PrgE w w' e (zbg s.data.toList)/\Below w.heap.size w w':=by
 obtain ⟨W0,hW0,hb0,hO0⟩:∃ W0,W0=w.alloc (.cells #[.slice none 0 0] 63)/\Below w.heap.size w W0/\OwnV W0 w.heap.size 63 [.slice none 0 0]:=⟨_,rfl,(yR _ _).alloc (zr _) _,OwnV.new _ _ _⟩;have hmf:=zmf Tryz.prog
 have hlt:=hO0.lt
 have HC:=zh (zhd (hG.below hb0 hG.size) s hs 67 w.heap.size (fun b=>b=w.heap.size) (fun b e=>by omega) (TsBox (W0.heap.size+3) w.heap.size) (fun l=>allS l (l.length+1) [] 0)
  (fun W W' x hx ho=>by
   obtain ⟨u,hO,hX⟩:=hx
   exact ⟨u,ho.own hO (fun e=>by omega),hX.only ho (fun b e=>e.2)⟩)
  zho (fun l p v W hlx hb hp hP=>zj3 hP (zfQ hlx) (hO0.below hb (zr _)) (by omega) (by have:=hP.lt;omega)))
 have hpc:∀ a b c,zbg s.data.toList=.err a b c->c≠0:=fun a b c h=>zgi h
 rw [zms] at hpc ⊢
 generalize (zdp s.data.toList fun l=>allS l (l.length+1) [] 0)=R at *
 have HW0:=zh hW0;have Hb0:=zh hb0;clear hW0 hb0 hO0 hG;go_enter Tryz.func27,Tryz.ntmps27
 go_upto_region 2 with (fail)
 rw [<- HW0.out];go_wp2_with fail
 go_at_call 66;refine HC.out.mono ?_;intro e1 w1 he1;clear HC
 cases R with
 | err a b c =>
  obtain ⟨rfl,hT⟩:=he1;have hc:=hpc a b c rfl;have hc0:(c != 0)=true:=by simpa using hc
  have Hc:=zh hc;have HB:Hid (Below w.heap.size w w1):=zh ((Only.of_below (S:=fun b=>b=w.heap.size) Hb0.out).trans hT |>.below (fun k e=>by omega) (zr _));clear hc hT hpc;go_wp2_with fail
  exact yE (v:=.tuple #[.slice none 0 0,.int .i64 a,.int .i64 b,.int .i64 c]) (by simp [results,Tryz.results27,go_sem]) rfl ⟨⟨rfl,Hc.out⟩,HB.out⟩
 | ok xs =>
  obtain ⟨rfl,⟨u,hO,⟨cs,hR,hX⟩⟩,hT⟩:=he1;have x0:=hO.cell (i:=0) rfl;have HB:Hid (Below w.heap.size w w1):=zh ((Only.of_below (S:=fun b=>b=w.heap.size) Hb0.out).trans hT |>.below (fun k e=>by omega) (zr _));have HR:=zh (zeg hR (show w.heap.size<=_ by omega));have HX:=zh hX;clear hO hR hX hT hpc;go_wp2_with fail
  exact yE (v:=.tuple #[u,.int .i64 0,.int .i64 0,.int .i64 0]) (by simp [results,Tryz.results27,go_sem]) rfl ⟨⟨u,rfl,cs,HR.out,HX.out.weak fun b _ h=>by have:=h.1;omega⟩,HB.out⟩
end Go.Proofs.YtdhikpkecmaplaaGreatDoor

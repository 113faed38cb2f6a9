/- The program's parser: chain, walked. -/
import Derived.Test.YtdhikpkecmaplaaGreatDoorPaEMk
set_option linter.unusedSimpArgs false
set_option linter.unusedVariables false
set_option maxRecDepth 100000
set_option maxHeartbeats 4000000
namespace Go.Proofs.YtdhikpkecmaplaaGreatDoor
open Go.RowKit

theorem zls (n:Nat) (hn:n < 5):∀ x ∈ lvl n,x.1 ∈ signWords/\strongs.getD (zai x.1 signWords 0) 0=n+1/\(9+(zai x.1 signWords 0:Int))=x.2:=by
 have:n=0∨n=1∨n=2∨n=3∨n=4:=by omega
 rcases this with rfl | rfl | rfl | rfl | rfl <;> decide
theorem zm8 (n:Nat) (hn:n < 5):∀ k:Fin 13,strongs.getD (k.val+1) 0=n+1->∃ x ∈ lvl n,x.1=signWords.getD k.val []:=by
 have:n=0∨n=1∨n=2∨n=3∨n=4:=by omega
 rcases this with rfl | rfl | rfl | rfl | rfl <;> decide
theorem zlt {s:List UInt8}:∀ {l:List (List UInt8)} {b k:Nat},zai s l b=b+k+1->l.getD k []=s/\k < l.length:=by
 intro l
 induction l with
 | nil=>intro b k h;rw [zai] at h;omega
 | cons x r ih =>
  intro b k h;rw [zai] at h;split at h
  ·rename_i hx
   obtain rfl:k=0:=by omega
   exact ⟨hx,by simp⟩
  ·cases k with
   | zero =>
    exfalso
    have:∀ (l:List (List UInt8)) (b:Nat),zai s l b=0∨b+1<=zai s l b:=by
     intro l
     induction l with
     | nil=>intro b;exact .inl rfl
     | cons y t ihl =>
      intro b;rw [zai];split
      ·exact .inr (zr _)
      ·rcases ihl (b+1) with h | h
       ·exact .inl h
       ·exact .inr (by omega)
    have:=this r (b+1)
    omega
   | succ k =>
    obtain ⟨h1,h2⟩:=ih (b:=b+1) (k:=k) (by omega);exact ⟨h1,by rw [yB];omega⟩
theorem sg_yes {l:List Tok} (hE:PEnv l) {n j:Nat} (hn:n < 5) {x:List UInt8 × Int} (hx:x ∈ lvl n) (h:isS l j x.1=true):zaj l j=n+1/\(9+(za3 l j:Int))=x.2:=by
 obtain ⟨f1,f2,f3⟩:=zls n hn x hx;obtain ⟨h1,h2⟩:=zcT h;have hk:=hE.signs j h1 (by rw [h2];exact f1);have e:za3 l j=zai x.1 signWords 0:=by unfold za3;rw [yP hk,h2]
 exact ⟨by unfold zaj;rw [e,f2],by rw [e,f3]⟩
theorem sg_no {l:List Tok} {n j:Nat} (hn:n < 5) (h:∀ x ∈ lvl n,isS l j x.1=false):zaj l j≠n+1:=by
 intro hs;unfold zaj at hs;have h0:za3 l j≠0:=by intro e;rw [e] at hs;have:strongs.getD 0 0=0:=rfl;omega
 obtain ⟨k,hk⟩:∃ k,za3 l j=k+1:=⟨za3 l j - 1,by omega⟩
 have hkind:(zaa l j).kind=3:=by
  unfold za3 at hk;split at hk
  ·assumption
  ·omega
 have hp:zai (zaa l j).text signWords 0=0+k+1:=by
  unfold za3 at hk;rw [yP hkind] at hk;omega
 obtain ⟨g1,g2⟩:=zlt hp;rw [hk] at hs;obtain ⟨x,hx,e⟩:=zm8 n hn ⟨k,g2⟩ hs;have:=h x hx;rw [e] at this;show False;unfold isS at this;rw [hkind] at this;simp only [ne_eq] at this;have e2:(zaa l j).text=signWords.getD k []:=g1.symm;rw [e2] at this;simp at this
theorem zlu {w:World} {p:Nat} {v:Value} {l:List Tok} {i o n gs:Nat} (h:PSt w p v l i o) (hE:PEnv l) (hn:n < 5) (once:Bool) (honce:once=true ↔ n=2) (hg:OwnV w gs 272 (sgC (lvl n))) (hgp:gs≠p) (k:Nat) (caps:Array Value) (D:Nat->Nat->PR Ex)
  (hk:∀ W,(callFunc k caps).run Tryz.prog W=.ok (.enter k caps) W) (hmon:∀ j x m,D j o=.ok x m->j < m)
  (hD:∀ j W,i<=j->Turns p w W->PSt W p v l j o->Calls Tryz.prog k caps W (RdE l p v o W (ExN W.heap.size) (D j o))) :
  Calls Tryz.prog 209 #[.pointer (some ⟨p,0,none⟩),.bool once,.func (.func k) #[] caps,.slice (some ⟨gs,0,none⟩) (lvl n).length (lvl n).length] w
   (RdE l p v o w (ExN w.heap.size) ((D i o).andThen fun x j=>zbl l D (n+1) (l.length+1 - j) x j o)):=by
 have hlt:=h.lt;have hv:=zao h;have hon:Hid (once=true∨once=false):=zh (by cases once <;> simp);have H:=zh h;have HD:=zh hD;have HG:=zh hg
 have hl6:(lvl n).length<=6:=by
  have:n=0∨n=1∨n=2∨n=3∨n=4:=by omega
  rcases this with rfl | rfl | rfl | rfl | rfl <;> decide
 obtain ⟨W0,hW0,hb0,hA0,hB0,hs0⟩:=opened w [.pointer (some ⟨p,0,none⟩)] zeroE 122 193;have HW0:=zh hW0;have Hb0:=zh hb0;have HA0:=zh hA0;have HB0:=zh hB0;have Hs0:=zh hs0;simp only [zeroE] at HW0;have HC:=zh (hD i W0 (zr _) (Turns.below hb0) (h.below hb0));obtain ⟨final,hfin⟩:∃ r,((D i o).andThen fun x j=>zbl l D (n+1) (l.length+1 - j) x j o)=r:=⟨_,rfl⟩;rw [hfin];have hmf:=zmf Tryz.prog
 clear h hD hg hW0 hb0 hA0 hB0 hs0
 cases hDi:D i o with
 | err a c =>
  rw [hDi] at hfin HC;subst hfin;go_enter Tryz.func209,Tryz.ntmps209
  go_upto_region 1 with (fail)
  rw [<- HW0.out];go_wp2_with fail
  refine HC.out.mono ?_;rintro e4 w4 ⟨he4,hT4⟩;unfold Bad at he4;subst he4;have HT4:=zh hT4;clear hT4;go_wp2_with fail
  exact ⟨rfl,rfl,(Turns.below Hb0.out).trans HT4.out⟩
 | ok x0 j0 =>
  have hj0:=hmon i x0 j0 hDi;rw [hDi] at hfin HC;have Hf0:Hid (zbl l D (n+1) (l.length+1 - j0) x0 j0 o=final):=zh hfin;clear hfin hDi;obtain ⟨op0,n0,name0,args0⟩:=x0;go_enter Tryz.func209,Tryz.ntmps209
  go_upto_region 1 with (fail)
  rw [<- HW0.out];go_wp2_with fail
  refine HC.out.mono ?_;rintro e4 w4 ⟨u4,rfl,⟨cs4,rfl,hX4⟩,hP4,hT4⟩;obtain ⟨aa0,cp0,rfl⟩:=hX4.form1;have HA4:=zh (hT4.own HA0.out (by omega));have HB4:=zh (hT4.own HB0.out (by omega));have HX4:=zh hX4;have HP4:=zh hP4;have HT4:=zh ((Turns.below Hb0.out).trans hT4);have hs4:w.heap.size+2<=w4.heap.size:=by have:=Hs0.out;have:=hT4.size;omega
  have hs04:W0.heap.size<=w4.heap.size:=hT4.size;obtain ⟨bx,hbx⟩:∃ bx,bx=w4.heap.size:=⟨_,rfl⟩;obtain ⟨W5,hW5,hb5,hO5⟩:∃ W5,W5=w4.alloc (.cells #[.int .u8 op0,.int .i64 n0,.string (bstr name0),.slice aa0 args0.length cp0] 193)/\Below w4.heap.size w4 W5/\OwnV W5 bx 193 [.int .u8 op0,.int .i64 n0,.string (bstr name0),.slice aa0 args0.length cp0]:=⟨_,rfl,(yR _ _).alloc (zr _) _,by rw [hbx];exact OwnV.new _ _ _⟩;have HW5:=zh hW5;have HA5:=zh (HA4.out.below hb5 (zr _));have HB5:=zh (HB4.out.below hb5 (zr _));have HO5:=zh hO5;have HP5:=zh (HP4.out.below hb5);have HT5:=zh (HT4.out.trans (Turns.below hb5));have HX5:Hid (ExsC W5 (fun b=>w.heap.size+2<=b/\b≠bx) [.mk op0 n0 name0 args0] [.int .u8 op0,.int .i64 n0,.string (bstr name0),.slice aa0 args0.length cp0]):=zh ((HX4.out.weak fun b hlt h=>⟨yT Hs0.out h,by omega⟩).under hb5 (zr _));have hj0l:=HP5.out.here;have Hbx:=zh hbx;have hbx2:w.heap.size+2<=bx:=by omega
  clear hT4 hX4 hP4 hb5 hO5 hW5 hbx HA4 HB4 HX4 HP4 HT4 HA0 HB0 HC;go_wp2_with fail
  rw [<- HW5.out,<- Hbx.out];go_loopg [10,13,14,15,16,17,18,19,20,21,22,23,24,25,26,27,28,29,30,31,32,33,34,35,36,37] (l.length - j0) (fun g _ _ _ _ _ _ _ _ _ _ _ _ _ _ _ _ _ _ _ _ _ _ _ _ _ _ wr=>∃ (j F:Nat) (op m:Int) (name:List UInt8) (args:List Ex) (aa:Option Addr) (cp:Nat),g=l.length - j/\i<=j/\l.length - j < F/\Hid (PSt wr p v l j o)/\Hid (OwnV wr w.heap.size 122 [.pointer (some ⟨p,0,none⟩)])/\Hid (OwnV wr (w.heap.size+1) 193 zeroE)/\Hid (OwnV wr bx 193 [.int .u8 op,.int .i64 m,.string (bstr name),.slice aa args.length cp])/\Hid (ExsC wr (fun b=>w.heap.size+2<=b/\b≠bx) [.mk op m name args] [.int .u8 op,.int .i64 m,.string (bstr name),.slice aa args.length cp])/\Hid (zbl l D (n+1) F (.mk op m name args) j o=final)/\Hid (Turns p w wr))
  case atStart=>exact ⟨j0,l.length+1 - j0,op0,n0,name0,args0,aa0,cp0,rfl,by omega,by omega,HP5,HA5,HB5,HO5,HX5,Hf0,HT5⟩
  case round =>
   clear HW0 HW5 HO5 HA5 HB5 HP5 HX5 HT5 Hf0 hs4 hs04;obtain ⟨j,F,op,m,name,args,aa,cp,rfl,hij,hF,HP,HA,HB,HO,HX,Hf,HT⟩:=hrel;have hjl:=HP.out.here;obtain ⟨F,rfl⟩:∃ F',F=F'+1:=⟨F - 1,by omega⟩;have a0:=HA.out.cell (i:=0) rfl;have HI:=zh (ziY HP.out hE HA.out (lvl n) gs (HT.out.own HG.out hgp) (by omega));go_wp2_with fail
   go_at_call 232;refine HI.out.mono ?_;rintro e3 w3 ⟨⟨r,rfl,hr⟩,hb3⟩;have HP3:=zh (HP.out.below hb3);have HA3:=zh (HA.out.below hb3 (zr _));have HB3:=zh (HB.out.below hb3 (zr _));have HO3:=zh (HO.out.below hb3 (zr _));have HX3:=zh (HX.out.under hb3 (zr _));have HT3:=zh (HT.out.trans (Turns.below hb3));clear hb3 HP HA HB HO HX HT HI a0;obtain ⟨o0,o1,o2,o3⟩:=yc4 HO3.out;have of:=HO3.out.free;rcases hr with ⟨k',x,rfl,hkx,his⟩ | ⟨rfl,hno⟩
   ·have hxm:x ∈ lvl n:=List.mem_of_getElem? hkx;obtain ⟨hst,hop⟩:=sg_yes hE hn hxm his;have hj1:=hE.good.is_next hjl his;have hklt:k' < (lvl n).length:=(List.getElem?_eq_some_iff.1 hkx).1;have hkn:¬ (k':Int) < 0:=by omega
    have hki:(k':Int) < ((lvl n).length:Int):=by omega
    have hk0:(0:Int)<=(k':Int):=by omega
    have hgx:(lvl n)[k']=x:=by have:=(List.getElem?_eq_some_iff.1 hkx).2;exact this
    have Hf2:Hid ((D (j+1) o).andThen (fun y m'=>if n+1=3 then .ok (.mk x.2 0 [] [.mk op m name args,y]) m' else zbl l D (n+1) F (.mk x.2 0 [] [.mk op m name args,y]) m' o)=final):=zh (by
     rw [<- Hf.out,zbl,yN (by rw [hst];simp),hop])
    clear Hf hkx his hxm hst hop;have a0:=HA3.out.cell (i:=0) rfl;have p1:=HP3.out.blk.cell (i:=1) rfl;have pf:=HP3.out.blk.free;have hj2:(j:Int)<=16385:=by have:=hE.small;omega
    obtain ⟨W6,hW6,hP6,hT36⟩:∃ W6,W6=w3.setCell ⟨p,1,none⟩ (.int .i64 ((j:Int)+1))/\PSt W6 p v l (j+1) o/\Turns p w3 W6:=⟨_,rfl,HP3.out.step hj1,(Turns.refl _ _).set _ _⟩;have HW6:=zh hW6;have HP6:=zh hP6;have HA6:=zh (hT36.own HA3.out (by omega));have HB6:=zh (hT36.own HB3.out (by omega));have HO6:=zh (hT36.own HO3.out (by omega));have HX6:=zh (HX3.out.grown hT36.grown (fun b e h=>by cases e;omega));have HT6:=zh (HT3.out.trans hT36);have HG6:=zh (HT6.out.own HG.out hgp);clear hW6 hP6 hT36 HP3 HA3 HB3 HO3 HX3 HT3 o0 o1 o2 o3 of;go_upto_region 6 with (fail)
    rw [<- HW6.out];clear a0 p1 pf HW6;obtain ⟨c0,c1⟩:=zgm HG6.out hklt;rw [hgx] at c0 c1;obtain ⟨o0,o1,o2,o3⟩:=yc4 HO6.out;have of:=HO6.out.free;have HC:Hid (∀ W,Below W6.heap.size W6 W->Calls Tryz.prog k caps W (RdE l p v o W (ExN W.heap.size) (D (j+1) o))):=zh (fun W hb=>HD.out (j+1) W (by omega) (HT6.out.trans (Turns.below hb)) (HP6.out.below hb))
    cases hDj:D (j+1) o with
    | err a c =>
     have Hf3:Hid (.err a c=final):=zh (by rw [<- Hf2.out,hDj];rfl);rw [hDj] at HC;clear Hf2 hDj;refine zeL [0,0,0,0,0,0,0,1,2,2,2] (fun w'=>Below W6.heap.size W6 w') (by kernel_rfl) (by kernel_rfl) ((yR _ _).drew) ?_;try simp only [Act.put,zs1,zs3,zs2]
     apply stepsDie.val
     ·intro w' hb1;have Hb1':=zh hb1;have c1':=Below.keep hb1 c1;have o0':=Below.keep hb1 o0;have o1':=Below.keep hb1 o1;have o2':=Below.keep hb1 o2;have o3':=Below.keep hb1 o3;try simp only [Act.put,zs1,zs3,zs2]
      go_wp2;first | exact ⟨rfl,Hb1'.out⟩ | exact ⟨rfl,Hb1'.out.alloc Hb1'.out.size _⟩
     try simp only [Act.put,zs1,zs3,zs2]
     apply stepsDie.val
     ·intro w' hb1;have Hb1':=zh hb1;have c1':=Below.keep hb1 c1;have o0':=Below.keep hb1 o0;have o1':=Below.keep hb1 o1;have o2':=Below.keep hb1 o2;have o3':=Below.keep hb1 o3;try simp only [Act.put,zs1,zs3,zs2]
      go_wp2;first | exact ⟨rfl,Hb1'.out⟩ | exact ⟨rfl,Hb1'.out.alloc Hb1'.out.size _⟩
     try simp only [Act.put,zs1,zs3,zs2]
     apply stepsDie.val
     ·intro w' hb1;have Hb1':=zh hb1;have c1':=Below.keep hb1 c1;have o0':=Below.keep hb1 o0;have o1':=Below.keep hb1 o1;have o2':=Below.keep hb1 o2;have o3':=Below.keep hb1 o3;try simp only [Act.put,zs1,zs3,zs2]
      go_wp2;first | exact ⟨rfl,Hb1'.out⟩ | exact ⟨rfl,Hb1'.out.alloc Hb1'.out.size _⟩
     try simp only [Act.put,zs1,zs3,zs2]
     apply stepsDie.val
     ·intro w' hb1;have Hb1':=zh hb1;have c1':=Below.keep hb1 c1;have o0':=Below.keep hb1 o0;have o1':=Below.keep hb1 o1;have o2':=Below.keep hb1 o2;have o3':=Below.keep hb1 o3;try simp only [Act.put,zs1,zs3,zs2]
      go_wp2;first | exact ⟨rfl,Hb1'.out⟩ | exact ⟨rfl,Hb1'.out.alloc Hb1'.out.size _⟩
     try simp only [Act.put,zs1,zs3,zs2]
     apply stepsDie.val
     ·intro w' hb1;have Hb1':=zh hb1;have c1':=Below.keep hb1 c1;have o0':=Below.keep hb1 o0;have o1':=Below.keep hb1 o1;have o2':=Below.keep hb1 o2;have o3':=Below.keep hb1 o3;try simp only [Act.put,zs1,zs3,zs2]
      go_wp2;first | exact ⟨rfl,Hb1'.out⟩ | exact ⟨rfl,Hb1'.out.alloc Hb1'.out.size _⟩
     try simp only [Act.put,zs1,zs3,zs2]
     apply stepsDie.val
     ·intro w' hb1;have Hb1':=zh hb1;have c1':=Below.keep hb1 c1;have o0':=Below.keep hb1 o0;have o1':=Below.keep hb1 o1;have o2':=Below.keep hb1 o2;have o3':=Below.keep hb1 o3;try simp only [Act.put,zs1,zs3,zs2]
      go_wp2;first | exact ⟨rfl,Hb1'.out⟩ | exact ⟨rfl,Hb1'.out.alloc Hb1'.out.size _⟩
     try simp only [Act.put,zs1,zs3,zs2]
     apply stepsDie.val
     ·intro w' hb1;have Hb1':=zh hb1;have c1':=Below.keep hb1 c1;have o0':=Below.keep hb1 o0;have o1':=Below.keep hb1 o1;have o2':=Below.keep hb1 o2;have o3':=Below.keep hb1 o3;try simp only [Act.put,zs1,zs3,zs2]
      go_wp2;first | exact ⟨rfl,Hb1'.out⟩ | exact ⟨rfl,Hb1'.out.alloc Hb1'.out.size _⟩
     try simp only [Act.put,zs1,zs3,zs2]
     apply stepsDie.die
     ·intro w' hb1;have Hb1':=zh hb1;have c1':=Below.keep hb1 c1;have o0':=Below.keep hb1 o0;have o1':=Below.keep hb1 o1;have o2':=Below.keep hb1 o2;have o3':=Below.keep hb1 o3;try simp only [Act.put,zs1,zs3,zs2]
      go_wp2_with fail
      (refine (HC.out _ Hb1'.out).mono ?_;rintro e4 w4 ⟨he4,hT4⟩;unfold Bad at he4;subst he4;exact fun a ha=>⟨ha,by rw [<- Hf3.out];exact ⟨rfl,HT6.out.trans ((Turns.below Hb1'.out).trans hT4)⟩⟩)
     apply stepsDie.skip;apply stepsDie.skip;apply stepsDie.skip
     exact stepsDie.done
    | ok y j2 =>
     have hj12:=hmon (j+1) y j2 hDj;obtain ⟨op2,n2,name2,args2⟩:=y;have Hf3:Hid ((if n+1=3 then .ok (.mk x.2 0 [] [.mk op m name args,.mk op2 n2 name2 args2]) j2 else zbl l D (n+1) F (.mk x.2 0 [] [.mk op m name args,.mk op2 n2 name2 args2]) j2 o)=final):=zh (by rw [<- Hf2.out,hDj];rfl);rw [hDj] at HC;clear Hf2 hDj HD;have hgsl:=HG6.out.lt;go_region_with ((refine (HC.out _ (yR _ _).drew).mono ?_;rintro e4 w4 ⟨u4,rfl,⟨cs4,rfl,hX4⟩,hP4,hT4⟩;obtain ⟨aa2,cp2,rfl⟩:=hX4.form1;have hT:=(Turns.below (p:=p) (yR W6.heap.size W6).drew).trans hT4;have hO4:=hT.own HO6.out (by omega);obtain ⟨o0,o1,o2,o3⟩:=yc4 hO4;have of:=hO4.free;have hG4:=hT.own HG6.out hgp;have c1:=(zgm hG4 hklt).2;rw [hgx] at c1;have hOa:=hO4.alloc (.cells #[.int .u8 op,.int .i64 m,.string (bstr name),.slice aa args.length cp,.int .u8 op2,.int .i64 n2,.string (bstr name2),.slice aa2 args2.length cp2] 193);obtain ⟨z0,z1,z2,z3⟩:=yc4 hOa;have zf:=hOa.free;have l1:=hG4.lt))
     all_goals
      have hsz6:W6.heap.size<=w4.heap.size:=hT.size;have hsb6:bx < W6.heap.size:=HO6.out.lt;have hXs:ExsC w4 (fun b=>w.heap.size+2<=b/\b≠bx) [.mk op m name args,.mk op2 n2 name2 args2] [.int .u8 op,.int .i64 m,.string (bstr name),.slice aa args.length cp,.int .u8 op2,.int .i64 n2,.string (bstr name2),.slice aa2 args2.length cp2]:=(HX6.out.grown (Turns.grown (p:=p) hT) (fun b e h=>by cases e;omega)).append (hX4.weak fun b _ h=>by have h':W6.heap.size<=b:=h;exact ⟨by omega,by omega⟩);have hB7:=zjD (op:=x.2) hO4 hXs (by omega) (by simp)
      obtain ⟨W7,hW7,hB7,hP7,hT7,hA7,hR7⟩:∃ W7,W7=((((w4.alloc (.cells #[.int .u8 op,.int .i64 m,.string (bstr name),.slice aa args.length cp,.int .u8 op2,.int .i64 n2,.string (bstr name2),.slice aa2 args2.length cp2] 193)).setCell ⟨bx,0,none⟩ (.int .u8 x.2)).setCell ⟨bx,1,none⟩ (.int .i64 0)).setCell ⟨bx,2,none⟩ (.string { data:=#[] })).setCell ⟨bx,3,none⟩ (.slice (some ⟨w4.heap.size,0,none⟩) 2 2)/\ExBox (w.heap.size+2) bx W7 (.mk x.2 0 [] [.mk op m name args,.mk op2 n2 name2 args2])/\PSt W7 p v l j2 o/\Turns p w W7/\OwnV W7 w.heap.size 122 [.pointer (some ⟨p,0,none⟩)]/\OwnV W7 (w.heap.size+1) 193 zeroE:=by
       have hbo:Turns bx w4 (((((w4.alloc (.cells #[.int .u8 op,.int .i64 m,.string (bstr name),.slice aa args.length cp,.int .u8 op2,.int .i64 n2,.string (bstr name2),.slice aa2 args2.length cp2] 193)).setCell ⟨bx,0,none⟩ (.int .u8 x.2)).setCell ⟨bx,1,none⟩ (.int .i64 0)).setCell ⟨bx,2,none⟩ (.string { data:=#[] })).setCell ⟨bx,3,none⟩ (.slice (some ⟨w4.heap.size,0,none⟩) 2 2)):=(((((Turns.refl bx w4).alloc _).set _ _).set _ _).set _ _).set _ _;exact ⟨_,rfl,hB7,hP4.only (S:=fun b=>b=bx) hbo (by omega) (fun b hb=>by have:=hv b hb;omega),(HT6.out.trans hT).transNew hbo (fun b hb=>.inr (by omega)),hbo.own (hT.own HA6.out (by omega)) (by omega),hbo.own (hT.own HB6.out (by omega)) (by omega)⟩
      obtain ⟨cs7,hO7,hX7⟩:=hB7;obtain ⟨aa7,cp7,rfl⟩:=hX7.form1;have HW7:=zh hW7;have HP7:=zh hP7;have HT7:=zh hT7;have HA7:=zh hA7;have HB7:=zh hR7;have HO7:=zh hO7;have HX7:=zh hX7;clear hW7 hP7 hT7 hA7 hR7 hO7 hX7 hXs hT hO4 hOa hG4 hX4 hP4 hT4 HC HG6 HP6 HA6 HB6 HO6 HX6 HT6;go_upto_region 7 with (fail)
      rw [<- HW7.out];clear o0 o1 o2 o3 of z0 z1 z2 z3 zf c0 c1 HW7;go_upto_if 36 with (fail)
      rcases hon.out with hon1 | hon1
      ·have hn2:=honce.1 hon1;refine wp_cond_true (by show Value.bool once=_;rw [hon1]) ?_;clear hon1;have Hf4:Hid (final=.ok (.mk x.2 0 [] [.mk op m name args,.mk op2 n2 name2 args2]) j2):=zh (by rw [<- Hf3.out,yP (by omega)]);obtain ⟨o0,o1,o2,o3⟩:=yc4 HO7.out;obtain ⟨b0,b1,b2,b3⟩:=yc4 HB7.out;have bf:=HB7.out.free;go_wp2_with fail
       rw [Hf4.out];refine yE (v:=.agg #[.int .u8 x.2,.int .i64 0,.string (bstr []),.slice aa7 2 cp7]) (by simp [results,Tryz.results209,go_sem,b0,b1,b2,b3]) rfl ⟨_,rfl,⟨_,rfl,?_⟩,?_,?_⟩
       ·have hP:¬ (w.heap.size+2<=w.heap.size+1/\w.heap.size+1≠bx):=by omega
        exact ((((HX7.out.set hP).set hP).set hP).set hP).weak fun b _ h=>by omega
       ·exact HP7.out.only (S:=fun b=>b=w.heap.size+1) (((((Turns.refl (w.heap.size+1) _).set _ _).set _ _).set _ _).set _ _) (by omega) (fun b hb=>by have:=hv b hb;omega)
       ·exact (((HT7.out.setNew (by omega) _).setNew (by omega) _).setNew (by omega) _).setNew (by omega) _
      ·have hn2:n≠2:=fun e=>by have:=honce.2 e;rw [hon1] at this;cases this
       refine wp_cond_false (by show Value.bool once=_;rw [hon1]) ?_;clear hon1;have Hf4:Hid (zbl l D (n+1) F (.mk x.2 0 [] [.mk op m name args,.mk op2 n2 name2 args2]) j2 o=final):=zh (by rw [<- Hf3.out,yN (by omega)]);have hj2l:=HP7.out.here;go_wp2_with fail
       go_roundg (l.length - j2)
       case measure=>omega
       case rel=>exact ⟨j2,F,x.2,0,[],[.mk op m name args,.mk op2 n2 name2 args2],aa7,cp7,rfl,by omega,by omega,HP7,HA7,HB7,HO7,HX7,Hf4,HT7⟩
   ·have Hf2:Hid (final=.ok (.mk op m name args) j):=zh (by rw [<- Hf.out,zbl,yP (sg_no hn hno)]);clear Hf hno;obtain ⟨b0,b1,b2,b3⟩:=yc4 HB3.out;have bf:=HB3.out.free;go_wp2_with fail
    rw [Hf2.out];refine yE (v:=.agg #[.int .u8 op,.int .i64 m,.string (bstr name),.slice aa args.length cp]) (by simp [results,Tryz.results209,go_sem,b0,b1,b2,b3]) rfl ⟨_,rfl,⟨_,rfl,?_⟩,?_,?_⟩
    ·have hP:¬ (w.heap.size+2<=w.heap.size+1/\w.heap.size+1≠bx):=by omega
     exact ((((HX3.out.set hP).set hP).set hP).set hP).weak fun b _ h=>by omega
    ·exact HP3.out.only (S:=fun b=>b=w.heap.size+1) (((((Turns.refl (w.heap.size+1) _).set _ _).set _ _).set _ _).set _ _) (by omega) (fun b hb=>by have:=hv b hb;omega)
    ·exact (((HT3.out.setNew (by omega) _).setNew (by omega) _).setNew (by omega) _).setNew (by omega) _
end Go.Proofs.YtdhikpkecmaplaaGreatDoor

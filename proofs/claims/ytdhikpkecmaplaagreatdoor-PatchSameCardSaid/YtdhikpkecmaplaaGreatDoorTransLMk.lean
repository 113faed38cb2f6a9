/- The program's translator: fail, later and what it answers, slot, let, walked. -/
import Derived.Test.YtdhikpkecmaplaaGreatDoorPMaskMk
import Derived.Laws.OwnMore
set_option linter.unusedSimpArgs false
set_option linter.unusedVariables false
set_option maxRecDepth 100000
set_option maxHeartbeats 2000000
namespace Go.Proofs.YtdhikpkecmaplaaGreatDoor
open Go.RowKit

theorem TrC.setE {w:World} {t B:Nat} {vc vn:Value} {s:TS} (h:TrC w t B vc vn s) (k:Int):TrC (w.setCell ⟨t,5,none⟩ (.int .i64 k)) t B vc vn { s with e:=k }/\TrF t vc vn w vc vn (w.setCell ⟨t,5,none⟩ (.int .i64 k)):=
 ⟨⟨h.blk.set 5 _,zdB h.code (fun g hg e=>by subst e;exact h.tc hg) _ _,zdB h.names (fun g hg e=>by subst e;exact h.tn hg) _ _,h.tB,h.tc,h.tn,h.cn⟩,(Only.refl _ _).setIn (.inl rfl) _,fun _ hk=>.inl hk⟩
theorem zpy (k:Int) (w:World) (t B:Nat) (vc vn:Value) (s:TS) (h:TrC w t B vc vn s) :
  Calls Tryz.prog 75 #[.pointer (some ⟨t,0,none⟩),.int .i64 k] w (TrP w t B vc vn (s.fail k) (.tuple #[])):=by
 have H:=zh h;have x0:=h.blk.cell (i:=5) rfl;have xf:=h.blk.free;clear h;obtain ⟨q,hq⟩:∃ q:Bool,(s.e == 0)=q:=⟨_,rfl⟩;cases q
 ·have Hs:Hid (s.fail k=s):=zh (by unfold TS.fail;rw [yN (by simpa using hq)]);go_enter Tryz.func75,Tryz.ntmps75
  go_wp2_with fail
  exact yE (results_none rfl _ _ _) rfl ⟨rfl,_,_,by rw [Hs.out];exact H.out,TrF.refl _ _ _ _⟩
 ·have Hs:Hid (s.fail k={ s with e:=k }):=zh (by unfold TS.fail;rw [yP (by simpa using hq)]);go_enter Tryz.func75,Tryz.ntmps75
  go_wp2_with fail
  exact yE (results_none rfl _ _ _) rfl ⟨rfl,_,_,by rw [Hs.out];exact (H.out.setE k).1,(H.out.setE k).2⟩
def LaterP (w : World) (t B : Nat) (vc vn : Value) (s' : TS) (k : Nat) (e : Ending) (w' : World) : Prop :=
  ∃ b1 b2, e = .returned (.func (.func 185) #[] #[.pointer (some ⟨b1, 0, none⟩), .pointer (some ⟨b2, 0, none⟩)]) /\ OwnV w' b1 135 [.pointer (some ⟨t, 0, none⟩)] /\ OwnV w' b2 3 [.int .i64 k] /\
    ∃ vc' vn', TrC w' t B vc' vn' s' /\ TrF t vc vn w vc' vn' w' /\ ¬ TrS t vc' vn' b1 /\ ¬ TrS t vc' vn' b2
theorem zoU (op:Int) (w:World) (t B:Nat) (vc vn:Value) (s:TS) (h:TrC w t B vc vn s) (hB:B<=w.heap.size) (hl:s.code.length<=1000000) :
  Calls Tryz.prog 148 #[.pointer (some ⟨t,0,none⟩),.int .u8 op] w (LaterP w t B vc vn (s.put op 0) s.code.length):=by
 obtain ⟨ac,capc,rfl,_,_⟩:=Sl.form (Sl.of_own h.code);obtain ⟨W1,hW1,hX1,hb1⟩:∃ W1,W1=w.alloc (.cells #[.pointer (some ⟨t,0,none⟩)] 135)/\OwnV W1 w.heap.size 135 [.pointer (some ⟨t,0,none⟩)]/\Below w.heap.size w W1:=⟨_,rfl,OwnV.new _ _ _,(yR _ _).alloc (zr _) _⟩;obtain ⟨W2,hW2,hX2,hb2⟩:∃ W2,W2=W1.alloc (.cells #[.int .i64 s.code.length] 3)/\OwnV W2 W1.heap.size 3 [.int .i64 s.code.length]/\Below W1.heap.size W1 W2:=⟨_,rfl,OwnV.new _ _ _,(yR _ _).alloc (zr _) _⟩;have HW1:=zh hW1;have HW2:=zh hW2;have h1:=h.grown hb1;have h2:=h1.grown hb2;have x0:=h1.blk.cell (i:=0) rfl;have y0:=hX1.cell (i:=0) rfl;have z0:=h2.blk.cell (i:=0) rfl;have z1:=(hX1.below hb2 (zr _)).cell (i:=0) rfl;have hs1:=hb1.size;have hs2:=hb2.size;have N1:=zh (h.not (g:=w.heap.size) (zr _));have N2:=zh (h.not (g:=W1.heap.size) hs1);have HP:=zh (znS op 0 W2 t B _ vn s h2 (by omega) hl);have HX1:=zh (hX1.below hb2 (zr _));have HX2:=zh hX2;have HF:=zh ((TrF.of_below t (.slice ac s.code.length capc) vn hb1).trans (TrF.of_below t _ vn hb2));clear h h1 h2 hb1 hb2 hX1 hX2 hW1 hW2;go_enter Tryz.func148,Tryz.ntmps148
 go_upto_region 1 with (fail)
 rw [<- HW1.out];go_upto_region 2 with (fail)
 rw [<- HW2.out];go_wp2_with fail
 refine HP.out.mono ?_;rintro e3 w3 ⟨rfl,vc',vn',hT3,hF3⟩;have HO1:=zh (hF3.own HX1.out N1.out);have HO2:=zh (hF3.own HX2.out N2.out);have HT3:=zh hT3;have HF3:=zh (HF.out.trans hF3);clear hT3 hF3;go_wp2_with fail
 go_ret;exact ⟨_,_,rfl,HO1.out.1,HO2.out.1,_,_,HT3.out,HF3.out,HO1.out.2,HO2.out.2⟩
theorem TrC.patched {w:World} {t B:Nat} {vc vn:Value} {s:TS} (h:TrC w t B vc vn s) {k:Nat} (hk:k < s.code.length) {g:Nat} (hg:vc.ownBlock=some g) :
  TrC (w.setCell ⟨g,k * 2+1,none⟩ (.int .i64 s.code.length)) t B vc vn (s.patch k)/\TrF t vc vn w vc vn (w.setCell ⟨g,k * 2+1,none⟩ (.int .i64 s.code.length)):=by
 have hcs:(znH s.code).set (k * 2+1) (.int .i64 s.code.length)=znH (s.patch k).code:=by
  show _=znH (setA s.code k s.code.length);generalize (s.code.length:Int)=x
  generalize s.code=c at *
  unfold setA
  induction c generalizing k with
  | nil=>simp at hk
  | cons i c ih =>
   cases k with
   | zero=>rfl
   | succ k =>
    rw [List.modify_succ_cons];show (i.cells++znH c).set ((k+1) * 2+1) _=i.cells++znH (c.modify k _);rw [<- ih (by simpa using hk),List.set_append_right _ _ (by simp [InsS.cells];omega)];congr 2
    simp [InsS.cells];omega
 have hlen:(s.patch k).code.length=s.code.length:=zoi _ _ _;have hgt:g≠t:=fun e=>h.tc (by rw [hg,e])
 refine ⟨⟨h.blk.set_ne (fun e=>hgt e.symm) _,?_,zdB h.names (fun b hb e=>h.cn g hg (by rw [hb,e])) _ _,h.tB,h.tc,h.tn,h.cn⟩,(Only.refl _ _).setIn (.inr (.inl hg)) _,fun _ hk=>.inl hk⟩;rw [hlen,<- hcs]
 obtain ⟨cap,rfl⟩:∃ cap,vc=.slice (some ⟨g,0,none⟩) s.code.length cap:=by
  rcases h.code.2 with ⟨rfl,-⟩ | ⟨g',cap,cur,rfl,-⟩
  ·cases hg
  ·cases hg;exact ⟨_,rfl⟩
 exact (h.code.stored _ _).1
theorem zoy (b1 b2 k:Nat) (w:World) (t B:Nat) (vc vn:Value) (s:TS) (h:TrC w t B vc vn s) (hk:k < s.code.length) (hl:s.code.length<=1000000) (h1:OwnV w b1 135 [.pointer (some ⟨t,0,none⟩)]) (h2:OwnV w b2 3 [.int .i64 k]) :
  Calls Tryz.prog 185 #[.pointer (some ⟨b1,0,none⟩),.pointer (some ⟨b2,0,none⟩)] w (TrP w t B vc vn (s.patch k) (.tuple #[])):=by
 obtain ⟨g,cap,hv⟩:∃ g cap,vc=.slice (some ⟨g,0,none⟩) s.code.length cap:=by
  rcases h.code.2 with ⟨-,h0⟩ | ⟨g',cap,cur,hv,-⟩
  ·omega
  ·exact ⟨g',cap,hv⟩
 subst hv;have x0:=h.blk.cell (i:=0) rfl;have y0:=h1.cell (i:=0) rfl;have z0:=h2.cell (i:=0) rfl;have hfz:=h.code.frozenAt;have hki:(k:Int) < (s.code.length:Int):=by omega
 have hki0:(0:Int)<=(k:Int):=by omega
 obtain ⟨v0,hv0⟩:∃ v0,w.cell? ⟨g,k * 2+1,none⟩=some v0:=by
  rw [h.code.cellAt _ (by omega)];exact ⟨_,yD (by rw [zpx];omega)⟩
 have HP:=zh (fun nq=>(h.drew nq).patched hk (g:=g) rfl);have HF:=zh (fun nq=>(TrF.refl t (.slice (some ⟨g,0,none⟩) s.code.length cap) vn w).drew nq);clear h h1 h2;go_enter Tryz.func185,Tryz.ntmps185
 go_wp2_with fail
 refine zaW 14 (DrewOf _) (by kernel_rfl) (by kernel_rfl) (DrewOf.start _) ?_;simp only [List.take_succ_cons,List.take_zero,List.drop_succ_cons,List.drop_zero]
 repeat
  try simp only [Act.put,zs1,zs3,zs2]
  apply stepsSeq.cons
  ·rintro w' ⟨nq,rfl⟩;simp only [Act.put,zs1,zs3,zs2];go_wp2_with (fail)
   first | exact ⟨rfl,nq,rfl⟩ | exact ⟨rfl,nq,(World.drewN_drewN _ _ _).symm⟩ | exact ⟨rfl,nq,by simp⟩
 try simp only [Act.put,zs1,zs3,zs2]
 refine stepsSeq.nil ?_;rintro w' ⟨nq,rfl⟩;go_wp2_with fail
 exact yE (results_none rfl _ _ _) rfl ⟨rfl,_,_,(HP.out _).1,(HF.out _).trans (HP.out _).2⟩

theorem TrC.strs {w:World} {t B:Nat} {vc vn:Value} {s:TS} (h:TrC w t B vc vn s):Strs w s.names vn:=Sl.of_own h.names
theorem zqS (name:List UInt8) (w:World) (t B:Nat) (vc vn:Value) (s:TS) (h:TrC w t B vc vn s) (hl:s.names.length<=1000000) :
  Calls Tryz.prog 147 #[.pointer (some ⟨t,0,none⟩),.string (bstr name)] w (TrP w t B vc vn (s.slot name) (.int .i64 ((zai name s.names 0:Int) - 1))):=by
 have HI:=zh (zgy s.names name vn w h.strs hl);have HF:=zh (zpy 131 w t B vc vn s h);have H:=zh h;have x4:=h.blk.cell (i:=4) rfl;clear h;have Hs:Hid (s.slot name=if zai name s.names 0=0 then s.fail 131 else s):=zh rfl
 generalize zai name s.names 0=p at *
 generalize s.slot name=s' at *
 go_enter Tryz.func147,Tryz.ntmps147
 by_cases hp:p=0
 ·have hp1:(p:Int) - 1 < 0:=by omega
  have Hs2:Hid (s'=s.fail 131):=zh (by rw [Hs.out,yP hp]);clear Hs hp;go_wp2_with fail
  go_at_call 167;refine HI.out.mono ?_;rintro e1 w1 ⟨rfl,rfl⟩;go_wp2_with fail
  refine HF.out.mono ?_;rintro e1 w1 ⟨rfl,vc',vn',hT,hF⟩;have HT:=zh hT;have HF2:=zh hF;clear hT hF;go_wp2_with fail
  go_ret;exact ⟨rfl,_,_,by rw [Hs2.out];exact HT.out,HF2.out⟩
 ·have hp1:¬ (p:Int) - 1 < 0:=by omega
  have hp2:(0:Int)<=(p:Int) - 1:=by omega
  have Hs2:Hid (s'=s):=zh (by rw [Hs.out,yN hp]);clear Hs hp;go_wp2_with fail
  go_at_call 167;refine HI.out.mono ?_;rintro e1 w1 ⟨rfl,rfl⟩;go_wp2_with fail
  go_ret;exact ⟨rfl,_,_,by rw [Hs2.out];exact H.out,TrF.refl _ _ _ _⟩
theorem TrC.named {w w1:World} {t B:Nat} {vc vn v':Value} {s:TS} (h:TrC w t B vc vn s) (name:List UInt8) (hown:w1.ownsRow B 9 1 v' (s.names.length+1) (s.names.map strT++[strT name])) (hg:w.grownBy w1 vn.ownBlock) (hat:v'.ownBlock=vn.ownBlock∨∃ g,v'.ownBlock=some g/\w.heap.size<=g) :
  TrC (w1.setCell ⟨t,4,none⟩ v') t B vc v' { s with names:=s.names++[name] }/\TrF t vc vn w vc v' (w1.setCell ⟨t,4,none⟩ v'):=by
 have ht:=h.blk.lt
 have htn:v'.ownBlock≠some t:=by
  rcases hat with e | ⟨g,e,hge⟩
  ·rw [e];exact h.tn
  ·rw [e];intro e2;cases e2;omega
 have hb1:OwnV w1 t 137 [vc,.int .i64 s.locals,.int .u32 0,.int .u32 0,vn,.int .i64 s.e]:=h.blk.grown hg (fun e=>h.tn e.symm);have hn1:=zn3 hg h.code (fun g hg' e=>h.cn g hg' e)
 have hcn:∀ g,vc.ownBlock=some g->v'.ownBlock≠some g:=by
  intro g e;rcases hat with e1 | ⟨g',e1,hge⟩
  ·rw [e1];exact h.cn g e
  ·intro e2;rw [e1] at e2;cases e2;have:=(h.code.lt g e).2;omega
 refine ⟨⟨hb1.set 4 v',zdB hn1 (fun g hg' e=>by subst e;exact h.tc hg') _ _,?_,h.tB,h.tc,htn,hcn⟩,?_,?_⟩
 ·rw [yA,List.map_append];exact zdB hown (fun g hg' e=>by subst e;exact htn hg') _ _
 ·exact (Only.of_grown hg (fun g hr=>.inr (.inr hr))).setIn (.inl rfl) _
 ·intro k hk;rcases hk with rfl | hk | hk
  ·exact .inl (.inl rfl)
  ·exact .inl (.inr (.inl hk))
  ·rcases hat with e1 | ⟨g',e1,hge⟩
   ·exact .inl (.inr (.inr (e1 ▸ hk)))
   ·rw [e1] at hk;cases hk;exact .inr hge
theorem TrC.setL {w:World} {t B:Nat} {vc vn:Value} {s:TS} (h:TrC w t B vc vn s) (k:Nat):TrC (w.setCell ⟨t,1,none⟩ (.int .i64 k)) t B vc vn { s with locals:=k }/\TrF t vc vn w vc vn (w.setCell ⟨t,1,none⟩ (.int .i64 k)):=
 ⟨⟨h.blk.set 1 _,zdB h.code (fun g hg e=>by subst e;exact h.tc hg) _ _,zdB h.names (fun g hg e=>by subst e;exact h.tn hg) _ _,h.tB,h.tc,h.tn,h.cn⟩,(Only.refl _ _).setIn (.inl rfl) _,fun _ hk=>.inl hk⟩
theorem TrC.setLx {w:World} {t B:Nat} {vc vn:Value} {s:TS} (h:TrC w t B vc vn s) (k:Nat) (x:Int) (hx:x=(k:Int)):TrC (w.setCell ⟨t,1,none⟩ (.int .i64 x)) t B vc vn { s with locals:=k }/\TrF t vc vn w vc vn (w.setCell ⟨t,1,none⟩ (.int .i64 x)):=by
 rw [hx];exact h.setL k
theorem zth (name:List UInt8) (w0 w:World) (t B:Nat) (vc0 vn0 vc vn:Value) (s:TS) (h0:TrF t vc0 vn0 w0 vc vn w) (h:TrC w t B vc vn s) (hB:B<=w.heap.size) (hl:s.names.length<=1000000) (hlo:s.locals<=2000000) :
    Calls Tryz.prog 146 #[.pointer (some ⟨t,0,none⟩),.string (bstr name)] w (TrP w0 t B vc0 vn0 (s.letN name) (.int .i64 s.names.length)):=by
  obtain ⟨ac,capc,rfl,_,_⟩:=Sl.form (Sl.of_own h.code)
  obtain ⟨an,capn,rfl,_,_⟩:=Sl.form (Sl.of_own h.names)
  have HC:=zh (zhA s.names name _ w h.strs hl)
  have HF:=zh (zpy 132 w t B _ _ s h)
  have HT:=zh h
  have H0:=zh h0
  have x4:=h.blk.cell (i:=4) rfl
  clear h h0
  obtain ⟨s1,hs1⟩:∃ s1,s1=s.letE name:=⟨_,rfl⟩
  obtain ⟨s2,hs2⟩:∃ s2,s2=s1.letM:=⟨_,rfl⟩
  have Hn1:Hid (s1.names=s.names/\s1.locals=s.locals):=zh (by rw [hs1];exact (TS.letE_parts _ _).2)
  have Hn2:Hid (s2.names=s.names/\s2.locals=s.locals):=zh (by rw [hs2,(TS.letM_parts _).2.1,(TS.letM_parts _).2.2];exact Hn1.out)
  have Hr:Hid (s.letN name={ s2 with names:=s2.names++[name],locals:=max s2.locals (s2.names.length+1) }):=zh (by rw [hs2,hs1];rfl)
  have Hs1:Hid (s1=if zai name s.names 0≠0 then s.fail 132 else s):=zh hs1
  have Hs2:Hid (s2=if 32<=s1.names.length then s1.fail 5 else s1):=zh hs2
  obtain ⟨q,hq⟩:∃ q,decide (zai name s.names 0≠0)=q:=⟨_,rfl⟩
  have Hq:Hid (decide (zai name s.names 0≠0)=q):=zh hq
  rw [hq] at HC
  clear hq hs1 hs2
  go_enter Tryz.func146,Tryz.ntmps146
  go_wp2_with fail
  go_at_call 184
  refine HC.out.mono ?_
  rintro e1 w1 ⟨rfl,rfl⟩
  clear HC
  cases q
  case' false => have HT1 : Hid (TrC w t B (.slice ac s.code.length capc) (.slice an s.names.length capn) s1) := zh (by rw [Hs1.out, yN (by simpa using Hq.out)]; exact HT.out)
                 clear HF HT
  case' true =>
    go_wp2_with fail
    refine HF.out.mono ?_
    rintro e1 w ⟨rfl,vc,vn,hT,hF⟩
    have HT1:Hid (TrC w t B vc vn s1):=zh (by rw [Hs1.out,yP (by simpa using Hq.out)];exact hT)
    replace H0:=zh (H0.out.trans hF)
    replace hB:=yT hB hF.size
    clear HF HT hT hF x4
    obtain ⟨ac,capc,rfl,_,_⟩:=Sl.form (Sl.of_own HT1.out.code)
    obtain ⟨an,capn,hvn,_,_⟩:=Sl.form (Sl.of_own HT1.out.names)
    rw [Hn1.out.1] at hvn
    subst hvn
  all_goals
    clear Hs1 Hq
    replace x4:=HT1.out.blk.cell (i:=4) rfl
    have HF:=zh (zpy 5 w t B _ _ s1 HT1.out)
    by_cases hm:32<=s.names.length
    case' neg =>
      have HT2:Hid (TrC w t B _ _ s2):=zh (by rw [Hs2.out,yN (by rw [Hn1.out.1];exact hm)];exact HT1.out)
      have hmi:¬ (s.names.length:Int) >= 32:=by omega
      clear HF HT1 Hs2 Hn1
      go_upto_region 5 with (fail)
    case' pos =>
      have hmi:(s.names.length:Int) >= 32:=by omega
      go_upto_region 4 with (fail)
      go_wp2_with fail
      refine HF.out.mono ?_
      rintro e1 w ⟨rfl,vc,vn,hT,hF⟩
      have HT2:Hid (TrC w t B vc vn s2):=zh (by rw [Hs2.out,yP (by rw [Hn1.out.1];exact hm)];exact hT)
      replace H0:=zh (H0.out.trans hF)
      replace hB:=yT hB hF.size
      clear HF HT1 hT hF x4 Hn1 Hs2
      obtain ⟨ac,capc,rfl,_,_⟩:=Sl.form (Sl.of_own HT2.out.code)
      obtain ⟨an,capn,hvn,_,_⟩:=Sl.form (Sl.of_own HT2.out.names)
      rw [Hn2.out.1] at hvn
      subst hvn
      go_upto_region 5 with (fail)
  all_goals
    have hnm:=HT2.out.names
    replace x4:=HT2.out.blk.cell (i:=4) rfl
    have xf:=HT2.out.blk.free
    have hl2:s2.names.length<=1000000:=by rw [Hn2.out.1];exact hl
    have hlo2:s2.locals<=2000000:=by rw [Hn2.out.2];exact hlo
    go_wp2_with (at_builtin;refine zbj rfl (.tmp 25) (.tmp 27) 23 rfl hnm zsl Tryz.underlying23 rfl (by decide) rfl 1 1 rfl rfl rfl (by unfold maxLen;omega) (by omega) hB ?_;intro v' w1 hown1 hg1 hb1 hat1;obtain ⟨a1,cap1,rfl,hc1,hc2⟩:=Sl.form (Sl.of_own hown1);have hN:=HT2.out.named name hown1 hg1 hat1;have xf1:=(HT2.out.blk.grown hg1 (fun e=>HT2.out.tn e.symm)).free;have x41:=(HT2.out.blk.grown hg1 (fun e=>HT2.out.tn e.symm)).cell (i:=4) rfl;have HN:=zh hN;clear hN hown1 hg1 hb1 hat1 hnm)
    have x41:=HN.out.1.blk.cell (i:=4) rfl
    have x11:(w1.setCell ⟨t,4,none⟩ (.slice a1 (s2.names.length+1) cap1)).cell? ⟨t,1,none⟩=some (.int .i64 s2.locals):=HN.out.1.blk.cell (i:=1) rfl
    have xf2:=HN.out.1.blk.free
    obtain ⟨W5,hW5⟩:∃ W5,W5=w1.setCell ⟨t,4,none⟩ (.slice a1 (s2.names.length+1) cap1):=⟨_,rfl⟩
    rw [<- hW5] at x41 x11 xf2 HN ⊢
    clear hW5
    by_cases hmx:s2.locals < s2.names.length+1
    case' pos =>
      obtain ⟨L,hL⟩:∃ L,L=s2.names.length+1:=⟨_,rfl⟩
      have hL2:L=max s2.locals (s2.names.length+1):=by omega
      have hmi1:(s2.locals:Int) < (s2.names.length:Int)+1:=by omega
    case' neg =>
      obtain ⟨L,hL⟩:∃ L,L=s2.locals:=⟨_,rfl⟩
      have hL2:L=max s2.locals (s2.names.length+1):=by omega
      have hmi2:(s2.names.length:Int)+1<=(s2.locals:Int):=by omega
    all_goals
      have HP:=zh (fun (nq:Nat) (x:Int) (hx:x=(L:Int))=>(HN.out.1.drew nq).setLx L x hx)
      have HF5:=zh (fun nq=>H0.out.trans (HN.out.2.drew nq))
      have HL:=zh hL
      have HL2:=zh hL2
      clear hL2 hL
      refine zaW 15 (DrewOf _) (by kernel_rfl) (by kernel_rfl) (DrewOf.start _) ?_
      simp only [List.take_succ_cons,List.take_zero,List.drop_succ_cons,List.drop_zero]
      repeat
        try simp only [Act.put,zs1,zs3,zs2]
        apply stepsSeq.cons
        · rintro w' ⟨nq,rfl⟩
          simp only [Act.put,zs1,zs3,zs2]
          go_wp2_with (fail)
          first | exact ⟨rfl,nq,rfl⟩ | exact ⟨rfl,nq,(World.drewN_drewN _ _ _).symm⟩ | exact ⟨rfl,nq,by simp⟩
      try simp only [Act.put,zs1,zs3,zs2]
      refine stepsSeq.nil ?_
      rintro w' ⟨nq,rfl⟩
      go_wp2_with fail
      go_ret
      refine ⟨?_,_,_,?_,(HF5.out _).trans (HP.out _ _ ?_).2⟩
      rotate_right
      · have:=HL.out;omega
      · first | rfl | (rw [Hn2.out.1];rfl) | (rw [Hn2.out.1];congr 1;congr 1;omega)
      · rw [Hr.out,<- HL2.out];exact (HP.out _ _ (by have:=HL.out;omega)).1
theorem ztK (name:List UInt8) (w:World) (t B:Nat) (vc vn:Value) (s:TS) (h:TrC w t B vc vn s) (hB:B<=w.heap.size) (hl:s.names.length<=1000000) (hlo:s.locals<=2000000) :
  Calls Tryz.prog 146 #[.pointer (some ⟨t,0,none⟩),.string (bstr name)] w (TrP w t B vc vn (s.letN name) (.int .i64 s.names.length)):=
 zth name w w t B vc vn vc vn s (TrF.refl _ _ _ _) h hB hl hlo

theorem Strs.below {w w':World} {l:znU} {v:Value} (h:Strs w l v) (hb:Below w.heap.size w w'):Strs w' l v:=Sl.below (by omega) h hb (zr _)
theorem zn2 {op n:Int} {name:List UInt8} {len:Nat} (h:zbN op n name len=true):len=zb9 op/\1<=op/\op<=24:=by
 unfold zbN at h;rw [yC,yC,yQ,yQ] at h;exact ⟨h.2.1,h.1⟩
theorem zpT {op n:Int} {name:List UInt8} {le lb ll:Nat} (h:zbA op n name le lb ll=true):(1<=op/\op<=7)/\le=zfg op/\(lb=0∨op=4∨op=5)/\(ll=0∨op=4):=by
 unfold zbA at h;simp only [yC,yQ] at h;exact ⟨h.1,h.2.1,h.2.2.2.2.1,h.2.2.2.2.2⟩
theorem znL {α β:Type} {r:CR α} {f:α->CR β} {k:Int} (h:r.andThen f=.err k):r=.err k∨∃ x,r=.ok x/\f x=.err k:=by
 cases r with
 | ok x=>exact .inr ⟨x,rfl,h⟩
 | err e=>exact .inl (by have h':(CR.err e:CR β)=.err k:=h;cases h';rfl)
theorem zsj {s s1 s2:TS} {z0 z2:Nat} {r0:CR (List znA)} {r2:CR (znA × Nat)} (h:ExpsT s s1 z0 r0) (k:LisT (s1.put 12 0) s2 z2 r2) (hm:∀ c,r2=.ok c->s.names.length<=c.2) (he:∀ k,r0=.err k->k≠0) :
  StT s (((s2.back s1.names.length).put 11 s.code.length).patch s1.code.length) (1+z0+z2) [] (r0.andThen fun cs=>r2.andThen fun b=>.ok (zpC (znJ cs) b.1,b.2)):=by
 have hn1:=h.names;have hl1:=h.locals;have K:=k.block (fun c hc=>by show s1.names.length<=_;rw [hn1];exact hm c hc);have p1:(s1.put 12 0).code.length=s1.code.length+1:=by simp [TS.put_code]
 have hlen:∀ (q:TS) (a:Int) (j:Nat),((q.put 11 a).patch j).code.length=q.code.length+1:=fun q a j=>by
  show (setA _ _ _).length=_;rw [zoi];simp [TS.put_code]
 have hcl:(s2.back s1.names.length).code.length=s2.code.length:=rfl;have k1:=K.names;rw [List.append_nil] at k1;refine ⟨?_,?_,?_,?_,?_,?_,?_,?_⟩
 ·show (s2.back s1.names.length).names=s.names++[];rw [List.append_nil,<- hn1];exact k1
 ·intro hi;have:=K.inv (by show s1.names.length<=s1.locals;rw [hn1,hl1];exact hi);exact this
 ·rw [hlen,hcl];have:=h.le;have:=k.le;omega
 ·rw [hlen,hcl];have:=h.len;have:=k.len;omega
 ·have h2:s2.locals<=max s1.locals (s1.names.length+z2):=k.loc;show s2.locals<=_;rw [hn1,hl1] at h2;omega
 ·intro e;have h1:=h.keep e;show s2.e=_;rw [k.keep (by show s1.e≠0;rw [h1];exact e)];exact h1
 ·intro e hi c hc;obtain ⟨cs,rfl,h2⟩:=CR.andThen_ok hc;obtain ⟨b,rfl,h4⟩:=CR.andThen_ok h2;cases h4;obtain ⟨a1,a2⟩:=h.ok e cs rfl;obtain ⟨b1,b2,b3⟩:=k.ok a1 (by show s1.names.length<=s1.locals;rw [hn1,hl1];exact hi) b rfl;refine ⟨b1,?_,?_⟩
  ·rw [zrM,<- a2];show setA (s2.code++[⟨11,s.code.length⟩]) s1.code.length ((s2.code++[(⟨11,(s.code.length:Int)⟩:InsS)]).length:Nat)=_;rw [b2,TS.put_code];congr 2
   simp [znT]
  ·show s2.locals=max s.locals (max b.2 (s.names.length+0));rw [b3];show max s1.locals b.2=_;have:=hm b rfl;rw [hl1];omega
 ·intro e hi j hj;show s2.e=j;rcases znL hj with h1 | ⟨cs,h1,h2⟩
  ·have:=h.bad e j h1;rw [k.keep (by show s1.e≠0;rw [this];exact he j h1)];exact this
  ·rcases znL h2 with h3 | ⟨b,h3,h4⟩
   ·exact k.bad (h.ok e cs h1).1 (by show s1.names.length<=s1.locals;rw [hn1,hl1];exact hi) j h3
   ·cases h4
theorem if_law {s s1 s2:TS} {z0 z2:Nat} {r0:CR (List znA)} {r2:CR (znA × Nat)} (h:ExpsT s s1 z0 r0) (k:LisT (s1.put 12 0) s2 z2 r2) (hm:∀ c,r2=.ok c->s.names.length<=c.2) (he:∀ k,r0=.err k->k≠0) :
  StT s ((s2.back s1.names.length).patch s1.code.length) (1+z0+z2) [] (r0.andThen fun cs=>r2.andThen fun b=>.ok (ifC (znJ cs) b.1 [] false,max b.2 s.names.length)):=by
 have hn1:=h.names;have hl1:=h.locals;have K:=k.block (fun c hc=>by show s1.names.length<=_;rw [hn1];exact hm c hc);have p1:(s1.put 12 0).code.length=s1.code.length+1:=by simp [TS.put_code]
 have hlen:∀ (q:TS) (j:Nat),(q.patch j).code.length=q.code.length:=fun q j=>by
  show (setA _ _ _).length=_;rw [zoi]
 have hcl:(s2.back s1.names.length).code.length=s2.code.length:=rfl;have k1:=K.names;rw [List.append_nil] at k1;refine ⟨?_,?_,?_,?_,?_,?_,?_,?_⟩
 ·show (s2.back s1.names.length).names=s.names++[];rw [List.append_nil,<- hn1];exact k1
 ·intro hi;have:=K.inv (by show s1.names.length<=s1.locals;rw [hn1,hl1];exact hi);exact this
 ·rw [hlen,hcl];have:=h.le;have:=k.le;omega
 ·rw [hlen,hcl];have:=h.len;have:=k.len;omega
 ·have h2:s2.locals<=max s1.locals (s1.names.length+z2):=k.loc;show s2.locals<=_;rw [hn1,hl1] at h2;omega
 ·intro e;have h1:=h.keep e;show s2.e=_;rw [k.keep (by show s1.e≠0;rw [h1];exact e)];exact h1
 ·intro e hi c hc;obtain ⟨cs,rfl,h2⟩:=CR.andThen_ok hc;obtain ⟨b,rfl,h4⟩:=CR.andThen_ok h2;cases h4;obtain ⟨a1,a2⟩:=h.ok e cs rfl;obtain ⟨b1,b2,b3⟩:=k.ok a1 (by show s1.names.length<=s1.locals;rw [hn1,hl1];exact hi) b rfl;refine ⟨b1,?_,?_⟩
  ·rw [ztL,<- a2];show setA s2.code s1.code.length (s2.code.length:Nat)=_;rw [b2,TS.put_code];congr 2
   simp [znT]
  ·show s2.locals=max s.locals (max (max b.2 s.names.length) (s.names.length+0));rw [b3];show max s1.locals b.2=_;have:=hm b rfl;rw [hl1];omega
 ·intro e hi j hj;show s2.e=j;rcases znL hj with h1 | ⟨cs,h1,h2⟩
  ·have:=h.bad e j h1;rw [k.keep (by show s1.e≠0;rw [this];exact he j h1)];exact this
  ·rcases znL h2 with h3 | ⟨b,h3,h4⟩
   ·exact k.bad (h.ok e cs h1).1 (by show s1.names.length<=s1.locals;rw [hn1,hl1];exact hi) j h3
   ·cases h4
theorem zs9 {s s1 s2 s4:TS} {z0 z2 z4:Nat} {r0:CR (List znA)} {r2 r4:CR (znA × Nat)} (h:ExpsT s s1 z0 r0) (k:LisT (s1.put 12 0) s2 z2 r2) (m:LisT (((s2.back s1.names.length).put 11 0).patch s1.code.length) s4 z4 r4) (hm:∀ c,r2=.ok c->s.names.length<=c.2) (hm4:∀ c,r4=.ok c->s.names.length<=c.2) (he:∀ k,r0=.err k->k≠0) (he2:∀ k,r2=.err k->k≠0) :
  StT s ((s4.back s1.names.length).patch s2.code.length) (1+z0+z2+z4) [] (r0.andThen fun cs=>r2.andThen fun b=>r4.andThen fun o=>.ok (ifC (znJ cs) b.1 o.1 true,max b.2 o.2)):=by
 have hn1:=h.names;have hl1:=h.locals;have K:=k.block (fun c hc=>by show s1.names.length<=_;rw [hn1];exact hm c hc)
 have k1:(s2.back s1.names.length).names=s1.names:=by
  have:=K.names;rw [List.append_nil] at this;exact this
 have p1:(s1.put 12 0).code.length=s1.code.length+1:=by simp [TS.put_code]
 have hnd:(((s2.back s1.names.length).put 11 0).patch s1.code.length).names=s1.names:=k1;have M:=m.block (fun c hc=>by rw [hnd,hn1];exact hm4 c hc)
 have hld:(((s2.back s1.names.length).put 11 0).patch s1.code.length).code.length=s2.code.length+1:=by
  show (setA _ _ _).length=_;rw [zoi,TS.put_code];show (s2.code++_).length=_;simp
 have m1:(s4.back s1.names.length).names=s1.names:=by
  have:=M.names;rw [List.append_nil,hnd] at this;exact this
 have hl4:((s4.back s1.names.length).patch s2.code.length).code.length=s4.code.length:=by
  show (setA _ _ _).length=_;rw [zoi];rfl
 refine ⟨?_,?_,?_,?_,?_,?_,?_,?_⟩
 ·show (s4.back s1.names.length).names=s.names++[];rw [List.append_nil,m1,hn1]
 ·intro hi;have h1:=K.inv (by show s1.names.length<=s1.locals;rw [hn1,hl1];exact hi);have h2:=M.inv h1;rw [hnd] at h2;exact h2
 ·rw [hl4];have:=h.le;have:=k.le;have:=m.le;omega
 ·rw [hl4];have:=h.len;have:=k.len;have:=m.len;omega
 ·have h2:s2.locals<=max s1.locals (s1.names.length+z2):=k.loc;have h4:=m.loc;rw [hnd] at h4;have h5:s4.locals<=max s2.locals (s1.names.length+z4):=h4;show s4.locals<=_;rw [hn1] at h2 h5;rw [hl1] at h2;omega
 ·intro e;have h1:=h.keep e;have h2:s2.e=s.e:=by rw [k.keep (by show s1.e≠0;rw [h1];exact e)];exact h1
  show s4.e=_;rw [m.keep (by show s2.e≠0;rw [h2];exact e)];exact h2
 ·intro e hi c hc;obtain ⟨cs,rfl,h2⟩:=CR.andThen_ok hc;obtain ⟨b,rfl,h4⟩:=CR.andThen_ok h2;obtain ⟨o,rfl,h6⟩:=CR.andThen_ok h4;cases h6;obtain ⟨a1,a2⟩:=h.ok e cs rfl;have hi1:(s1.put 12 0).names.length<=(s1.put 12 0).locals:=by show s1.names.length<=s1.locals;rw [hn1,hl1];exact hi
  obtain ⟨b1,b2,b3⟩:=k.ok a1 hi1 b rfl;obtain ⟨c1,c2,c3⟩:=m.ok b1 (K.inv hi1) o rfl;refine ⟨c1,?_,?_⟩
  ·rw [zso,<- a2];show setA s4.code s2.code.length (s4.code.length:Nat)=_;have e2:s2.code=znB (s1.code++[⟨12,0⟩]) b.1:=b2;have e2l:s2.code.length=s1.code.length+1+b.1.length:=by rw [e2,znT];simp
   have e4:s4.code=znB (setA (znB (s1.code++[⟨12,0⟩]) b.1++[⟨11,0⟩]) s1.code.length (s1.code.length+1+b.1.length+1:Nat)) o.1:=by
    rw [c2];show znB (setA (s2.code++[⟨11,0⟩]) s1.code.length ((s2.code++[(⟨11,0⟩:InsS)]).length:Nat)) o.1=_;rw [yA,e2l,e2];rfl
   have e4l:s4.code.length=s1.code.length+1+b.1.length+1+o.1.length:=by
    rw [e4,znT,zoi,yA,<- e2,e2l];rfl
   rw [e4l,e4,e2l]
  ·show s4.locals=max s.locals (max (max b.2 o.2) (s.names.length+0));rw [c3];show max s2.locals o.2=_;rw [b3];show max (max s1.locals b.2) o.2=_;have:=hm b rfl;rw [hl1];omega
 ·intro e hi j hj;have hi1:(s1.put 12 0).names.length<=(s1.put 12 0).locals:=by show s1.names.length<=s1.locals;rw [hn1,hl1];exact hi
  show s4.e=j;rcases znL hj with h1 | ⟨cs,h1,h2⟩
  ·have h5:=h.bad e j h1;have hj0:=he j h1;have h6:s2.e=j:=by rw [k.keep (by show s1.e≠0;rw [h5];exact hj0)];exact h5
   rw [m.keep (by show s2.e≠0;rw [h6];exact hj0)];exact h6
  ·have a1:=(h.ok e cs h1).1;rcases znL h2 with h3 | ⟨b,h3,h4⟩
   ·have h6:=k.bad a1 hi1 j h3;rw [m.keep (by show s2.e≠0;rw [h6];exact he2 j h3)];exact h6
   ·rcases znL h4 with h5 | ⟨o,h5,h6⟩
    ·exact m.bad (k.ok a1 hi1 b h3).1 (K.inv hi1) j h5
    ·cases h6
mutual
theorem zqp (ns:znU):∀ (x:St) (k:Int),zon ns x=.err k->k=131∨k=132∨k=5
 | .mk op n name es body els,k,h=>by
  rw [zon] at h;rcases znL h with h1 | ⟨cs,-,h2⟩
  ·exact .inl (zoZ _ _ _ h1)
  ·split at h2
   ·split at h2
    ·cases h2;exact .inr (.inl rfl)
    ·split at h2
     ·cases h2;exact .inr (.inr rfl)
     ·cases h2
   ·split at h2
    ·split at h2
     ·cases h2;exact .inl rfl
     ·cases h2
    ·split at h2
     ·cases h2
     ·split at h2
      ·cases h2
      ·split at h2
       ·cases h2
       ·rcases znL h2 with h3 | ⟨b,-,h4⟩
        ·exact zoT _ body k h3
        ·split at h4
         ·cases h4
         ·rcases znL h4 with h5 | ⟨o,-,h6⟩
          ·exact zoT _ els k h5
          ·cases h6
theorem zoT (ns:znU):∀ (l:List St) (k:Int),znQ ns l=.err k->k=131∨k=132∨k=5
 | [],k,h=>by rw [znQ] at h;cases h
 | .mk op n name es body els :: r,k,h=>by
  rw [znQ] at h;rcases znL h with h1 | ⟨cs,-,h2⟩
  ·exact zqp ns _ k h1
  ·rcases znL h2 with h3 | ⟨b,-,h4⟩
   ·exact zoT _ r k h3
   ·cases h4
end
def znN (op : Int) (name : List UInt8) : znU := if op = 1 then [name] else []
theorem tS_law (d:Nat) (ih:∀ (l:List St) (s:TS),zaJ d l=true->LisT s (tSs l s) (szSs l) (znQ s.names l)) (op n:Int) (name:List UInt8) (es:List Ex) (body els:List St) (s:TS) (h:zh2 d (.mk op n name es body els)=true) :
  StT s (tS (.mk op n name es body els) s) (szS (.mk op n name es body els)) (znN op name) (zon s.names (.mk op n name es body els)):=by
 unfold zh2 at h;simp only [yC] at h;obtain ⟨⟨hb,hl⟩,hh,hes⟩:=h;obtain ⟨hop,hle,hlb,hll⟩:=zpT hh;have HE:=zn6 es s (fun x hx s=>zom 40 x s (List.all_eq_true.1 hes x hx));have hee:∀ k,znG s.names es=.err k->k≠0:=fun k hk=>by have:=zoZ _ _ _ hk;omega
 have more:∀ {s':TS} {z z':Nat} {mk:znU} {r:CR (znA × Nat)},StT s s' z mk r->z<=z'->StT s s' z' mk r:=fun hx hz=>⟨hx.names,hx.inv,hx.le,by have:=hx.len;omega,by have:=hx.loc;omega,hx.keep,hx.ok,hx.bad⟩
 have hnb:(tEs es s).names=s.names:=HE.names;rw [szS];have h7:op=1∨op=2∨op=3∨op=4∨op=5∨op=6∨op=7:=by omega
 rcases h7 with rfl | rfl | rfl | rfl | rfl | rfl | rfl
 ·rw [show tS (.mk 1 n name es body els) s=((tEs es s).letN name).put 3 (tEs es s).names.length from rfl];refine more (StT.simple (s2:=(tEs es s).letN name) HE 3 _ rfl (TS.letN_code _ _) (znN 1 name) (TS.letN_names _ _) (TS.letN_locals _ _) (by simp [znN]) (if zai name s.names 0≠0 then .err 132 else if 32<=s.names.length then .err 5 else .ok 0) ?_ ?_ ?_ ?_ hee) (by omega)
  ·intro e;rw [TS.letN_e,yP e]
  ·intro e x hx;rw [TS.letN_e,yN (by rw [e];decide),hnb];by_cases h1:zai name s.names 0≠0
   ·rw [yP h1] at hx;cases hx
   ·rw [yN h1] at hx;by_cases h2:32<=s.names.length
    ·rw [yP h2] at hx;cases hx
    ·rw [yN h1,yN h2]
  ·intro e k hk;rw [TS.letN_e,yN (by rw [e];decide),hnb];by_cases h1:zai name s.names 0≠0
   ·rw [yP h1] at hk;cases hk;rw [yP h1]
   ·rw [yN h1] at hk;by_cases h2:32<=s.names.length
    ·rw [yP h2] at hk;cases hk;rw [yN h1,yP h2]
    ·rw [yN h2] at hk;cases hk
  ·rw [zon,hnb];refine zoY fun cs _=>?_
   rw [yP rfl];by_cases h1:zai name s.names 0≠0
   ·rw [yP h1,yP h1];rfl
   ·rw [yN h1,yN h1];by_cases h2:32<=s.names.length
    ·rw [yP h2,yP h2];rfl
    ·rw [yN h2,yN h2];rfl
 ·rw [show tS (.mk 2 n name es body els) s=((tEs es s).slot name).put 3 ((zai name (tEs es s).names 0:Int) - 1) from rfl];refine more (StT.simple (s2:=(tEs es s).slot name) HE 3 _ rfl (TS.slot_code _ _) (znN 2 name) (by rw [TS.slot_names];simp [znN]) (by rw [TS.slot_locals];simp [znN]) (by simp [znN]) (if zai name s.names 0=0 then .err 131 else .ok 0) ?_ ?_ ?_ ?_ hee) (by omega)
  ·intro e;exact TS.slot_keep e _
  ·intro e x hx;by_cases h1:zai name s.names 0=0
   ·rw [yP h1] at hx;cases hx
   ·unfold TS.slot;rw [hnb,yN h1];exact e
  ·intro e k hk;by_cases h1:zai name s.names 0=0
   ·rw [yP h1] at hk;cases hk;unfold TS.slot;rw [hnb,yP h1];exact TS.fail_new e _
   ·rw [yN h1] at hk;cases hk
  ·rw [zon,hnb];refine zoY fun cs _=>?_
   rw [yN (by decide),yP rfl];by_cases h1:zai name s.names 0=0
   ·rw [yP h1,yP h1];rfl
   ·rw [yN h1,yN h1];rfl
 ·rw [show tS (.mk 3 n name es body els) s=(tEs es s).put 5 n from rfl];exact more (StT.simple (s2:=tEs es s) HE 5 n rfl rfl (znN 3 name) (by simp [znN]) (by simp [znN]) (by simp [znN]) (.ok 0) (fun _=>rfl) (fun e _ _=>e) (fun _ k hk=>by cases hk) (by rw [zon];rfl) hee) (by omega)
 ·have HB:=ih body ((tEs es s).put 12 0) hb;rw [show ((tEs es s).put 12 0).names=s.names from hnb] at HB;by_cases hel:els=[]
  ·rw [show tS (.mk 4 n name es body els) s=((tSs body ((tEs es s).put 12 0)).back (tEs es s).names.length).patch (tEs es s).code.length from by rw [tS,yN (by decide),yN (by decide),yN (by decide),yP rfl,yN (by simp [hel])]]
   have e:zon s.names (.mk 4 n name es body els)=(znG s.names es).andThen fun cs=>(znQ s.names body).andThen fun b=>.ok (ifC (znJ cs) b.1 [] false,max b.2 s.names.length):=by
    rw [zon,hel];rfl
   rw [e];exact more (if_law HE HB (fun c hc=>zoV _ _ _ hc) hee) (by omega)
  ·rw [show tS (.mk 4 n name es body els) s=(((tSs els ((((tSs body ((tEs es s).put 12 0)).back (tEs es s).names.length).put 11 0).patch (tEs es s).code.length)).back (tEs es s).names.length)).patch ((tSs body ((tEs es s).put 12 0)).code.length) from by rw [tS,yN (by decide),yN (by decide),yN (by decide),yP rfl,yP hel]]
   have e:zon s.names (.mk 4 n name es body els)=(znG s.names es).andThen fun cs=>(znQ s.names body).andThen fun b=>(znQ s.names els).andThen fun o=>.ok (ifC (znJ cs) b.1 o.1 true,max b.2 o.2):=by
    rw [zon,decide_eq_true hel];rfl
   rw [e];have HL:=ih els ((((tSs body ((tEs es s).put 12 0)).back (tEs es s).names.length).put 11 0).patch (tEs es s).code.length) hl
   have hnd:((((tSs body ((tEs es s).put 12 0)).back (tEs es s).names.length).put 11 0).patch (tEs es s).code.length).names=s.names:=by
    obtain ⟨x,hx,-⟩:=HB.names;have:=TS.back_names hx;rw [show ((tEs es s).put 12 0).names=(tEs es s).names from rfl] at this;rw [<- hnb];exact this
   rw [hnd] at HL;exact more (zs9 HE HB HL (fun c hc=>zoV _ _ _ hc) (fun c hc=>zoV _ _ _ hc) hee (fun k hk=>by have:=zoT _ _ _ hk;omega)) (by omega)
 ·have HB:=ih body ((tEs es s).put 12 0) hb;rw [show ((tEs es s).put 12 0).names=s.names from hnb] at HB;rw [show tS (.mk 5 n name es body els) s=(((tSs body ((tEs es s).put 12 0)).back (tEs es s).names.length).put 11 s.code.length).patch (tEs es s).code.length from rfl]
  have e:zon s.names (.mk 5 n name es body els)=(znG s.names es).andThen fun cs=>(znQ s.names body).andThen fun b=>.ok (zpC (znJ cs) b.1,b.2):=by
   rw [zon];rfl
  rw [e];exact more (zsj HE HB (fun c hc=>zoV _ _ _ hc) hee) (by omega)
 ·have he0:es=[]:=List.eq_nil_of_length_eq_zero hle;subst he0;rw [show tS (.mk 6 n name [] body els) s=(tEs [] s).put 14 0 from rfl];exact more (StT.simple (s2:=tEs [] s) HE 14 0 rfl rfl (znN 6 name) (by simp [znN]) (by simp [znN]) (by simp [znN]) (.ok 0) (fun _=>rfl) (fun e _ _=>e) (fun _ k hk=>by cases hk) (by rw [zon];rfl) hee) (by omega)
 ·have he0:es=[]:=List.eq_nil_of_length_eq_zero hle;subst he0;rw [show tS (.mk 7 n name [] body els) s=(tEs [] s).put 15 0 from rfl];exact more (StT.simple (s2:=tEs [] s) HE 15 0 rfl rfl (znN 7 name) (by simp [znN]) (by simp [znN]) (by simp [znN]) (.ok 0) (fun _=>rfl) (fun e _ _=>e) (fun _ k hk=>by cases hk) (by rw [zon];rfl) hee) (by omega)
theorem zpn:∀ (d:Nat) (l:List St) (s:TS),zaJ d l=true->LisT s (tSs l s) (szSs l) (znQ s.names l):=by
 intro d
 induction d with
 | zero =>
  intro l s h
  have:l=[]:=by
   cases l with
   | nil=>rfl
   | cons x r=>cases h
  subst this
  exact LisT.nil s
 | succ d ih =>
  intro l
  induction l with
  | nil=>intro s _;exact LisT.nil s
  | cons x r ihl =>
   intro s h;rw [zfn,List.all_cons,yC] at h;obtain ⟨op,n,name,es,body,els⟩:=x;have h1:=tS_law d ih op n name es body els s h.1;have h2:=ihl (tS (.mk op n name es body els) s) (by rw [zfn];exact h.2)
   have hn:(tS (.mk op n name es body els) s).names=if op=1 then s.names++[name] else s.names:=by
    rw [h1.names];unfold znN;split
    ·rfl
    ·rw [List.append_nil]
   rw [hn] at h2;rw [tSs,znQ,szSs];refine LisT.cons h1 h2 (by have:=zrp (.mk op n name es body els);unfold znN;split <;> simp;omega) (fun k hk=>by have:=zqp _ _ _ hk;omega) (fun c hc=>?_);have:=zoV _ _ _ hc;unfold znN;split at this
   ·rw [yP ‹_›];simpa using this
   ·rw [yN ‹_›];simpa using this
end Go.Proofs.YtdhikpkecmaplaaGreatDoor

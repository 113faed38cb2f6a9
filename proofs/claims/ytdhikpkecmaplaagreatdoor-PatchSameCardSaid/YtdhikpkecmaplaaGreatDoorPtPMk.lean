/- The layer patch: the six checks of Submit, walked. -/
import Derived.Test.YtdhikpkecmaplaaGreatDoorPtIMk
import Derived.Test.YtdhikpkecmaplaaGreatDoorPtLMk
set_option linter.unusedSimpArgs false
set_option linter.unusedVariables false
set_option maxRecDepth 100000
set_option maxHeartbeats 4000000
namespace Go.Proofs.YtdhikpkecmaplaaGreatDoor
open Go.RowKit

theorem sc_f1 (a0 a1 a2 a3 a4 a5 a6:Value) (w:World):(Instr.field 105 (.agg #[a0,a1,a2,a3,a4,a5,a6]) 1).run Tryz.prog w=.ok (.agg #[a4,a5]) w:=by
 unfold Instr.field;simp [go_sem,asAgg,Tryz.underlying105]
theorem sc_f0 (a0 a1 a2 a3 a4 a5 a6:Value) (w:World):(Instr.field 105 (.agg #[a0,a1,a2,a3,a4,a5,a6]) 0).run Tryz.prog w=.ok (.agg #[a0,a1,a2,a3]) w:=by
 unfold Instr.field;simp [go_sem,asAgg,Tryz.underlying105]
def ChkE (B : Nat) (w3 : World) (ys : List Sys) (b : Bk) (p : Pt) (vs vc vp : Value) (bm gb gp gpr gat m n : Nat) (l c : Int) (x : Int) (e : Ending) (w' : World) : Prop := e = .returned (.int .i64 x) /\ SIn B w3 ys b p vs vc vp bm gb gp gpr gat m n l c w'
section
variable {B : Nat} {w3 w : World} {ys : List Sys} {b : Bk} {p : Pt} {bm gb gp gpr gat m n : Nat} {l c : Int} {vs vc vp : Value}
theorem zsW (h:SIn B w3 ys b p vs vc vp bm gb gp gpr gat m n l c w) (hc:SC B w3 bm gb gp gpr gat m) (hOk:BkOk ys b) (hn:n<=10000) :
  Calls Tryz.prog 45 #[.pointer (some ⟨gb,0,none⟩),.pointer (some ⟨gpr,0,none⟩),.pointer (some ⟨gp,0,none⟩)] w (ChkE B w3 ys b p vs vc vp bm gb gp gpr gat m (n+48) l c (if znM (znI ys) (rOf (errE ys)) b=false∨1073741824 < p.tick then 2 else 0)):=by
 have HV:=zh (zps h.glob hOk h.bk hc.bB hc.gl h.prs h.mle hn)
 generalize znM (znI ys) (rOf (errE ys)) b=q at *
 obtain ⟨ay,cs,rfl,hcs1,hcs2⟩:=h.bk.sys.form;obtain ⟨ac,cc,rfl,hcc1,hcc2⟩:=h.bk.scr.form;obtain ⟨ap,cp,rfl,hcp1,hcp2⟩:=h.bk.pend.form;obtain ⟨t,s,src⟩:=p;obtain ⟨tb,scr,pend⟩:=b;unfold bkV at HV
 simp only at *
 have x0:w.cell? ⟨gb,0,none⟩=some (.int .i64 tb):=h.box.cell (i:=0) rfl;have x1:=h.box.cell (i:=1) rfl;have x2:=h.box.cell (i:=2) rfl;have x3:=h.box.cell (i:=3) rfl;have z0:=h.rbox.cell (i:=0) rfl;have l1:=h.box.lt;have l2:=h.rbox.lt;have l3:=h.pbox.lt;have H:=zh h;have HC:=zh hc;clear h hc hOk;obtain ⟨X,hX⟩:∃ X:Int,(if q=false∨1073741824 < t then 2 else 0)=X:=⟨_,rfl⟩;have HX:=zh hX;rw [hX];clear hX
 cases q with
 | false =>
  go_enter Tryz.func45,Tryz.ntmps45
  go_wp2_with fail
  go_at_call 42;refine HV.out.mono ?_;rintro e1 w1 ⟨rfl,hp1,ho1⟩;have H1:=zh (H.out.step HC.out ho1 hp1);clear hp1 ho1 x0 x1 x2 x3 z0;go_wp2_with fail
  go_at_call 46;refine (zog _ 2 w1).mono ?_;rintro e2 w2 ⟨rfl,rfl⟩;go_wp2_with fail
  go_ret
  exact ⟨by rw [<- HX.out];simp,H1.out⟩
 | true =>
  by_cases ht:1073741824 < t
  all_goals
   go_enter Tryz.func45,Tryz.ntmps45
   go_wp2_with fail
   go_at_call 42;refine HV.out.mono ?_;rintro e1 w1 ⟨rfl,hp1,ho1⟩;have H1:=zh (H.out.step HC.out ho1 hp1);have y0:w1.cell? ⟨gp,0,none⟩=some (.int .i64 t):=H1.out.pbox.cell (i:=0) rfl;clear hp1 ho1 x0 x1 x2 x3 z0;go_wp2_with fail
   go_at_call 46;refine (zog _ 2 w1).mono ?_;rintro e2 w2 ⟨rfl,rfl⟩;go_wp2_with fail
   go_ret;exact ⟨by rw [<- HX.out];simp [ht],H1.out⟩
theorem zsX (h:SIn B w3 ys b p vs vc vp bm gb gp gpr gat m n l c w) (hc:SC B w3 bm gb gp gpr gat m) :
  Calls Tryz.prog 47 #[.pointer (some ⟨gp,0,none⟩),.pointer (some ⟨gb,0,none⟩)] w (ChkE B w3 ys b p vs vc vp bm gb gp gpr gat m n l c (if p.tick<=b.tick then 400 else 0)):=by
 obtain ⟨t,s,src⟩:=p;obtain ⟨tb,scr,pend⟩:=b
 simp only at *
 have x0:w.cell? ⟨gb,0,none⟩=some (.int .i64 tb):=h.box.cell (i:=0) rfl;have y0:w.cell? ⟨gp,0,none⟩=some (.int .i64 t):=h.pbox.cell (i:=0) rfl;have l1:=h.box.lt;have l3:=h.pbox.lt;have H:=zh h;clear h hc;obtain ⟨X,hX⟩:∃ X:Int,(if t<=tb then 400 else 0)=X:=⟨_,rfl⟩;have HX:=zh hX;rw [hX];clear hX;by_cases ht:t<=tb
 all_goals
  go_enter Tryz.func47,Tryz.ntmps47
  go_wp2_with fail
  go_at_call 46;refine (zog _ 400 w).mono ?_;rintro e2 w2 ⟨rfl,rfl⟩;go_wp2_with fail
  go_ret;exact ⟨by rw [<- HX.out];simp [ht],H.out⟩
theorem zsY (h:SIn B w3 ys b p vs vc vp bm gb gp gpr gat m n l c w) (hc:SC B w3 bm gb gp gpr gat m) :
  Calls Tryz.prog 48 #[.pointer (some ⟨gp,0,none⟩),.pointer (some ⟨gb,0,none⟩)] w (ChkE B w3 ys b p vs vc vp bm gb gp gpr gat m n l c (if p.slot < 0∨(b.scr.length:Int)<=p.slot then 6 else 0)):=by
 obtain ⟨ac,cc,rfl,hcc1,hcc2⟩:=h.bk.scr.form;obtain ⟨t,s,src⟩:=p;obtain ⟨tb,scr,pend⟩:=b
 simp only at *
 have x2:=h.box.cell (i:=2) rfl;have y1:w.cell? ⟨gp,1,none⟩=some (.int .i64 s):=h.pbox.cell (i:=1) rfl;have l1:=h.box.lt;have l3:=h.pbox.lt;have H:=zh h;clear h hc;obtain ⟨X,hX⟩:∃ X:Int,(if s < 0∨(scr.length:Int)<=s then 6 else 0)=X:=⟨_,rfl⟩;have HX:=zh hX;rw [hX];clear hX;by_cases h1:s < 0
 ·go_enter Tryz.func48,Tryz.ntmps48
  go_wp2_with fail
  go_at_call 46;refine (zog _ 6 w).mono ?_;rintro e2 w2 ⟨rfl,rfl⟩;go_wp2_with fail
  go_ret;exact ⟨by rw [<- HX.out,yP (.inl h1)];rfl,H.out⟩
 ·by_cases h2:(scr.length:Int)<=s
  all_goals
   go_enter Tryz.func48,Tryz.ntmps48
   go_wp2_with fail
   go_at_call 46;refine (zog _ 6 w).mono ?_;rintro e2 w2 ⟨rfl,rfl⟩;go_wp2_with fail
   go_ret;exact ⟨by rw [<- HX.out];simp [h1,h2],H.out⟩
theorem zsZ (h:SIn B w3 ys b p vs vc vp bm gb gp gpr gat m n l c w) (hc:SC B w3 bm gb gp gpr gat m) :
  Calls Tryz.prog 54 #[.pointer (some ⟨gb,0,none⟩)] w (ChkE B w3 ys b p vs vc vp bm gb gp gpr gat m n l c (if 32<=b.pend.length then 4 else 0)):=by
 obtain ⟨ap,cp,rfl,hcp1,hcp2⟩:=h.bk.pend.form;obtain ⟨tb,scr,pend⟩:=b
 simp only at *
 have x3:=h.box.cell (i:=3) rfl;have l1:=h.box.lt;have H:=zh h;clear h hc;obtain ⟨X,hX⟩:∃ X:Int,(if 32<=pend.length then 4 else 0)=X:=⟨_,rfl⟩;have HX:=zh hX;rw [hX];clear hX;by_cases ht:32<=pend.length
 ·have ht2:(32:Int)<=(pend.length:Int):=by omega
  go_enter Tryz.func54,Tryz.ntmps54
  go_wp2_with fail
  go_at_call 46;refine (zog _ 4 w).mono ?_;rintro e2 w2 ⟨rfl,rfl⟩;go_wp2_with fail
  go_ret;exact ⟨by rw [<- HX.out];simp [ht],H.out⟩
 ·have ht2:¬ (32:Int)<=(pend.length:Int):=by omega
  go_enter Tryz.func54,Tryz.ntmps54
  go_wp2_with fail
  go_at_call 46;refine (zog _ 4 w).mono ?_;rintro e2 w2 ⟨rfl,rfl⟩;go_wp2_with fail
  go_ret;exact ⟨by rw [<- HX.out];simp [ht],H.out⟩
theorem zs0 (h:SIn B w3 ys b p vs vc vp bm gb gp gpr gat m n l c w) (hc:SC B w3 bm gb gp gpr gat m) :
  Calls Tryz.prog 52 #[.pointer (some ⟨gb,0,none⟩),.pointer (some ⟨gp,0,none⟩)] w (ChkE B w3 ys b p vs vc vp bm gb gp gpr gat m n l c (if (b.pend.any fun x=>x.same p)=true then 402 else 0)):=by
 have HF:=zh (zr7 (w:=w) (tick:=p.tick) (slot:=p.slot) (t:=b.tick) h.bk.pend (Sl.isSl h.bk.scr) (Sl.isSl h.bk.sys) p.src);obtain ⟨ay,cs,rfl,hcs1,hcs2⟩:=h.bk.sys.form;obtain ⟨ac,cc,rfl,hcc1,hcc2⟩:=h.bk.scr.form;obtain ⟨ap,cp,rfl,hcp1,hcp2⟩:=h.bk.pend.form;obtain ⟨t,s,src⟩:=p;obtain ⟨tb,scr,pend⟩:=b
 simp only at *
 have x0:w.cell? ⟨gb,0,none⟩=some (.int .i64 tb):=h.box.cell (i:=0) rfl;have x1:=h.box.cell (i:=1) rfl;have x2:=h.box.cell (i:=2) rfl;have x3:=h.box.cell (i:=3) rfl;have y0:w.cell? ⟨gp,0,none⟩=some (.int .i64 t):=h.pbox.cell (i:=0) rfl;have y1:w.cell? ⟨gp,1,none⟩=some (.int .i64 s):=h.pbox.cell (i:=1) rfl;have l1:=h.box.lt;have l3:=h.pbox.lt;have H:=zh h;have HC:=zh hc;clear h hc;obtain ⟨X,hX⟩:∃ X:Int,(if (pend.any fun x=>x.same ⟨t,s,src⟩)=true then 402 else 0)=X:=⟨_,rfl⟩;have HX:=zh hX;rw [hX];clear hX;go_enter Tryz.func52,Tryz.ntmps52
 go_wp2_with fail
 go_at_call 53;refine HF.out.mono ?_;rintro e1 w1 ⟨⟨i,rfl,hi⟩,hb1⟩;have H1:=zh (H.out.below HC.out hb1);have Hi:=zh hi.any;clear hb1 hi x0 x1 x2 x3 y0 y1;by_cases h0:i >= 0
 ·have Hq:Hid ((pend.any fun x=>x.same ⟨t,s,src⟩)=true):=zh (by rw [<- Hi.out];simpa using h0);go_wp2_with fail
  go_at_call 46;refine (zog _ 402 w1).mono ?_;rintro e2 w2 ⟨rfl,rfl⟩;go_wp2_with fail
  go_ret;exact ⟨by rw [<- HX.out,yP Hq.out];rfl,H1.out⟩
 ·have Hq:Hid ((pend.any fun x=>x.same ⟨t,s,src⟩)=false):=zh (by rw [<- Hi.out];simpa using h0);go_wp2_with fail
  go_at_call 46;refine (zog _ 402 w1).mono ?_;rintro e2 w2 ⟨rfl,rfl⟩;go_wp2_with fail
  go_ret;exact ⟨by rw [<- HX.out,yN (by rw [Hq.out];decide)];rfl,H1.out⟩
theorem zs4 (h:SIn B w3 ys b p vs vc vp bm gb gp gpr gat m n l c w) (hc:SC B w3 bm gb gp gpr gat m) (hs:p.src.length<=9223372036854775807) (hn:n<=10000) :
  Calls Tryz.prog 49 #[.pointer (some ⟨gpr,0,none⟩),.pointer (some ⟨gp,0,none⟩),.pointer (some ⟨gat,0,none⟩),.pointer (some ⟨gb,0,none⟩)] w (ChkE B w3 ys b p vs vc vp bm gb gp gpr gat m (n+2) (znC p.src).line (znC p.src).col (errE ys p.slot p.src)):=by
 have HO:=zh (zqK h.glob h.prs h.mle (by omega) (bstr p.src) (by rw [zpl];exact hs));rw [zoI] at HO;have HR:Hid (∀ W,SIn B w3 ys b p vs vc vp bm gb gp gpr gat m (n+1) (znC p.src).line (znC p.src).col W->_):=zh (fun (W:World) (g:SIn B w3 ys b p vs vc vp bm gb gp gpr gat m (n+1) (znC p.src).line (znC p.src).col W)=>zpr (slot:=p.slot) (t:=b.tick) g.glob g.prs g.mle (by omega) g.bk.sys g.bk.l1 hc.bB (Sl.isSl g.bk.scr) (Sl.isSl g.bk.pend) (bstr p.src) (by rw [zpl];exact hs));rw [zoI] at HR
 generalize errE ys p.slot p.src=E at *
 generalize znC p.src=S at *
 obtain ⟨ay,cs,rfl,hcs1,hcs2⟩:=h.bk.sys.form;obtain ⟨ac,cc,rfl,hcc1,hcc2⟩:=h.bk.scr.form;obtain ⟨ap,cp,rfl,hcp1,hcp2⟩:=h.bk.pend.form;obtain ⟨t,s,src⟩:=p;obtain ⟨tb,scr,pend⟩:=b;obtain ⟨⟨code,loc,rd,wr⟩,line,col,er⟩:=S
 simp only at *
 have y2:w.cell? ⟨gp,2,none⟩=some (.string (bstr src)):=h.pbox.cell (i:=2) rfl;have z0:=h.rbox.cell (i:=0) rfl;have l1:=h.box.lt;have l2:=h.rbox.lt;have l3:=h.pbox.lt;have H:=zh h;have HC:=zh hc;have hfl:=fun (a0 a1 a2 a3 a4 a5 a6:Value) (w:World)=>sc_f1 a0 a1 a2 a3 a4 a5 a6 w
 clear h hc;go_enter Tryz.func49,Tryz.ntmps49
 go_wp2_with fail
 go_at_call 50;refine HO.out.mono ?_;rintro e1 w1 ⟨⟨v,rfl,hC⟩,hp1,ho1⟩;obtain ⟨a3,cap3,rfl,-,-⟩:=Sl.form hC.1;have H1:=H.out.step HC.out ho1 hp1;unfold scV
 simp only at *
 obtain ⟨W2,hW2,h2⟩:∃ W2,W2=(w1.setCell ⟨gat,0,none⟩ (.int .i64 line)).setCell ⟨gat,1,none⟩ (.int .i64 col)/\SIn B w3 ys ⟨tb,scr,pend⟩ ⟨t,s,src⟩ (.slice ay ys.length cs) (.slice ac scr.length cc) (.slice ap pend.length cp) bm gb gp gpr gat m (n+1) line col W2:=⟨_,rfl,H1.put HC.out line col⟩;have HW2:=zh hW2;have H2:=zh h2;obtain ⟨a0,a1⟩:=yc2 H1.atb;have af:=H1.atb.free;clear hp1 ho1 hC y2 z0 H1 hW2 h2;go_upto_region 2 with (fail)
 rw [<- HW2.out];clear a0 a1 af;have x0:W2.cell? ⟨gb,0,none⟩=some (.int .i64 tb):=H2.out.box.cell (i:=0) rfl;have x1:=H2.out.box.cell (i:=1) rfl;have x2:=H2.out.box.cell (i:=2) rfl;have x3:=H2.out.box.cell (i:=3) rfl;have y1:W2.cell? ⟨gp,1,none⟩=some (.int .i64 s):=H2.out.pbox.cell (i:=1) rfl;have y2:W2.cell? ⟨gp,2,none⟩=some (.string (bstr src)):=H2.out.pbox.cell (i:=2) rfl;have z0:=H2.out.rbox.cell (i:=0) rfl;have HR2:=zh (HR.out W2 H2.out);clear HR;go_wp2_with fail
 go_at_call 51;refine HR2.out.mono ?_;rintro e4 w4 ⟨rfl,hp4,ho4⟩;have H4:=zh (H2.out.step HC.out ho4 hp4);clear hp4 ho4 x0 x1 x2 x3 y1 y2 z0;go_wp2_with fail
 go_ret;exact ⟨rfl,H4.out⟩
end

def subs (ys : List Sys) (b : Bk) (p : Pt) : Nat -> Int
  | 0 => if znM (znI ys) (rOf (errE ys)) b = false ∨ 1073741824 < p.tick then 2 else 0
  | 1 => if p.tick <= b.tick then 400 else 0
  | 2 => if p.slot < 0 ∨ (b.scr.length : Int) <= p.slot then 6 else 0
  | 3 => errE ys p.slot p.src
  | 4 => if (b.pend.any fun x => x.same p) = true then 402 else 0
  | _ => if 32 <= b.pend.length then 4 else 0
theorem zpS {s:List UInt8} (h:(znC s).e=0):(znC s).line=0/\(znC s).col=0:=by
 cases hp:zbg s with
 | err a b c=>rw [zpI hp] at h;exact absurd h (zgi hp)
 | ok l =>
  cases hc:zol l with
  | err k=>rw [zpW hp hc];exact ⟨rfl,rfl⟩
  | ok p=>rw [zpX hp hc];exact ⟨rfl,rfl⟩
theorem zqo {ys:List Sys} {slot:Int} {s:List UInt8} (h:errE ys slot s=0):(znC s).e=0:=by
 unfold errE at h;by_cases e:(znC s).e=0
 ·exact e
 ·rw [yP e] at h;exact absurd h e
theorem zs5 {ys:List Sys} {b:Bk} {p:Pt} {x:Int} {j:Nat} (h:zqM (subs ys b p) 6 x j) :
  (x=0/\znO (znI ys) (errE ys) b p=(some { b with pend:=zok p b.pend },false,0))∨(x≠0/\∃ q:Bool,znO (znI ys) (errE ys) b p=(none,q,x)/\(if 3 < j then (znC p.src).line else 0)=(cond q (znC p.src).line 0)/\(if 3 < j then (znC p.src).col else 0)=(cond q (znC p.src).col 0)):=by
 have h0:∀ {P:Prop} [Decidable P] {k:Int},(if P then k else 0)=0->k≠0->¬ P:=fun {P} _ {k} e hk hp=>hk (by rw [yP hp] at e;exact e)
 have h1:∀ {P:Prop} [Decidable P] {k:Int},(if P then k else 0)≠0->P/\(if P then k else 0)=k:=fun {P} _ {k} e=>by
  by_cases hp:P
  ·exact ⟨hp,yP hp⟩
  ·rw [yN hp] at e;exact absurd rfl e
 rcases h with ⟨rfl,rfl,h⟩ | ⟨i,rfl,hi,hne,rfl,h⟩
 ·refine .inl ⟨rfl,?_⟩;unfold znO;rw [yN (h0 (h 0 (by omega)) (by decide)),yN (h0 (h 1 (by omega)) (by decide)),yN (h0 (h 2 (by omega)) (by decide)),yN (by have:=h 3 (by omega);show ¬ errE ys p.slot p.src≠0;exact fun e=>e this),yN (h0 (h 4 (by omega)) (by decide)),yN (h0 (h 5 (by omega)) (by decide))]
 ·refine .inr ⟨hne,?_⟩;unfold znO
  match i,hi,hne,h with
  | 0,_,hne,h =>
   obtain ⟨c0,e⟩:=h1 hne
   exact ⟨false,by rw [yP c0];show _=(none,false,ite _ _ _);rw [e],rfl,rfl⟩
  | 1,_,hne,h =>
   obtain ⟨c0,e⟩:=h1 hne
   exact ⟨false,by rw [yN (h0 (h 0 (by omega)) (by decide)),yP c0];show _=(none,false,ite _ _ _);rw [e],rfl,rfl⟩
  | 2,_,hne,h =>
   obtain ⟨c0,e⟩:=h1 hne
   exact ⟨false,by rw [yN (h0 (h 0 (by omega)) (by decide)),yN (h0 (h 1 (by omega)) (by decide)),yP c0];show _=(none,false,ite _ _ _);rw [e],rfl,rfl⟩
  | 3,_,hne,h =>
   have hne':errE ys p.slot p.src≠0:=hne
   exact ⟨true,by rw [yN (h0 (h 0 (by omega)) (by decide)),yN (h0 (h 1 (by omega)) (by decide)),yN (h0 (h 2 (by omega)) (by decide)),yP hne'];rfl,rfl,rfl⟩
  | 4,_,hne,h =>
   obtain ⟨c0,e⟩:=h1 hne;have h3:errE ys p.slot p.src=0:=h 3 (by omega);obtain ⟨p1,p2⟩:=zpS (zqo h3)
   exact ⟨false,by rw [yN (h0 (h 0 (by omega)) (by decide)),yN (h0 (h 1 (by omega)) (by decide)),yN (h0 (h 2 (by omega)) (by decide)),yN (fun e=>e h3),yP c0];show _=(none,false,ite _ _ _);rw [e],by rw [yP (by omega),p1];rfl,by rw [yP (by omega),p2];rfl⟩
  | 5,_,hne,h =>
   obtain ⟨c0,e⟩:=h1 hne;have h3:errE ys p.slot p.src=0:=h 3 (by omega);obtain ⟨p1,p2⟩:=zpS (zqo h3);exact ⟨false,by rw [yN (h0 (h 0 (by omega)) (by decide)),yN (h0 (h 1 (by omega)) (by decide)),yN (h0 (h 2 (by omega)) (by decide)),yN (fun e=>e h3),yN (h0 (h 4 (by omega)) (by decide)),yP c0];show _=(none,false,ite _ _ _);rw [e],by rw [yP (by omega),p1];rfl,by rw [yP (by omega),p2];rfl⟩
theorem zqQ {l:List Pt} {t:Int} {i:Int} (h:FoundI l (fun y=>decide (t < y.tick)) i):(if i < 0 then (l.length:Int) else i)=((upTo t l).length:Nat):=by
 have key:∀ (l:List Pt) (k:Nat),k<=l.length->(l.take k).any (fun y=>decide (t < y.tick))=false->(∀ h:k < l.length,decide (t < l[k].tick)=true)->(upTo t l).length=k:=by
  intro l
  induction l with
  | nil=>intro k hk _ _;simp at hk;subst hk;rfl
  | cons x r ih =>
   intro k hk h1 h2;unfold upTo
   cases k with
   | zero =>
    have:=h2 (by simp);rw [List.takeWhile_cons,yN (by simp at this ⊢;exact this)]
    rfl
   | succ k =>
    rw [List.take_succ_cons,List.any_cons,Bool.or_eq_false_iff] at h1;rw [List.takeWhile_cons,yP (by have:=h1.1;simp at this ⊢;exact this),yB];congr 1
    exact ih k (by simpa using hk) h1.2 (fun h=>h2 (by simpa using h))
 rcases h with ⟨rfl,h⟩ | ⟨k,hk,rfl,h1,h2⟩
 ·rw [yP (by decide),key l l.length (zr _) (by rw [List.take_length];exact h) (fun h=>by omega)]
 ·rw [yN (by omega),key l k (by omega) h2 (fun _=>h1)]
theorem zro (t:Int) (l:List Pt):l.take (upTo t l).length=upTo t l/\l.drop (upTo t l).length=znZ t l:=by
 have h:=zpZ t l;constructor
 ·conv=>lhs;arg 2;rw [<- h]
  exact List.take_left
 ·conv=>lhs;arg 2;rw [<- h]
  exact List.drop_left
theorem zph {ys:List Sys} {n:Nat} (h:znI ys n=true):ys.length<=16:=by
 unfold znI at h;rw [yC] at h;have h1:=h.1;unfold zop at h1;rw [yC,yQ] at h1;exact h1.1

def zor : Value := .agg #[.int .i64 0, .slice none 0 0, .slice none 0 0, .slice none 0 0]
def SubE (w w' : World) (ys : List Sys) (S : ScS) (e : Ending) : Option Bk × Bool × Int -> Prop
  | (none, q, x) => e = .returned (.tuple #[zor, .agg #[.int .i64 (cond q S.line 0), .int .i64 (cond q S.col 0)], .int .i64 x]) /\ x ≠ 0
  | (some c, _, _) => ∃ us uc up, e = .returned (.tuple #[bkV c us uc up, .agg #[.int .i64 0, .int .i64 0], .int .i64 0]) /\ BkOwn w.heap.size w' ys c us uc up
theorem zrc (args:Array Value) (W:World):(callFunc 45 args).run Tryz.prog W=.ok (.enter 45 args) W:=(enters_of (P:=Tryz.prog) Tryz.func45 (by kernel_rfl) rfl) args W
theorem zrd (args:Array Value) (W:World):(callFunc 47 args).run Tryz.prog W=.ok (.enter 47 args) W:=(enters_of (P:=Tryz.prog) Tryz.func47 (by kernel_rfl) rfl) args W
theorem zre (args:Array Value) (W:World):(callFunc 48 args).run Tryz.prog W=.ok (.enter 48 args) W:=(enters_of (P:=Tryz.prog) Tryz.func48 (by kernel_rfl) rfl) args W
theorem zrf (args:Array Value) (W:World):(callFunc 49 args).run Tryz.prog W=.ok (.enter 49 args) W:=(enters_of (P:=Tryz.prog) Tryz.func49 (by kernel_rfl) rfl) args W
theorem zrg (args:Array Value) (W:World):(callFunc 52 args).run Tryz.prog W=.ok (.enter 52 args) W:=(enters_of (P:=Tryz.prog) Tryz.func52 (by kernel_rfl) rfl) args W
theorem zrh (args:Array Value) (W:World):(callFunc 54 args).run Tryz.prog W=.ok (.enter 54 args) W:=(enters_of (P:=Tryz.prog) Tryz.func54 (by kernel_rfl) rfl) args W
theorem boxes4 (w:World) (X Y Z U:List Value) (tX tY tZ tU:TypeId):∃ W0,W0=(((w.alloc (.cells X.toArray tX)).alloc (.cells Y.toArray tY)).alloc (.cells Z.toArray tZ)).alloc (.cells U.toArray tU)/\Below w.heap.size w W0/\OwnV W0 w.heap.size tX X/\OwnV W0 (w.heap.size+1) tY Y/\OwnV W0 (w.heap.size+2) tZ Z/\OwnV W0 (w.heap.size+3) tU U/\W0.heap.size=w.heap.size+4:=
 ⟨_,rfl,((((yR _ _).alloc (zr _) _).alloc (by simp) _).alloc (by simp;omega) _).alloc (by simp;omega) _,(((OwnV.new _ _ _).alloc _).alloc _).alloc _,((OwnV.newAt (by simp) _ _).alloc _).alloc _,(OwnV.newAt (by simp) _ _).alloc _,OwnV.newAt (by simp) _ _,by simp⟩
theorem put42 {B:Nat} {w0 w:World} {gu ga:Nat} {tU tA:TypeId} {a b c d x y:Value} (hU:OwnV w gu tU [a,b,c,d]) (hA:OwnV w ga tA [x,y]) (hne:gu≠ga) (hb:Below B w0 w) (h1:B<=gu) (h2:B<=ga) (v0 v1 v2 v3 u0 u1:Value) :
  ∃ W',W'=(((((w.setCell ⟨gu,0,none⟩ v0).setCell ⟨gu,1,none⟩ v1).setCell ⟨gu,2,none⟩ v2).setCell ⟨gu,3,none⟩ v3).setCell ⟨ga,0,none⟩ u0).setCell ⟨ga,1,none⟩ u1/\OwnV W' gu tU [v0,v1,v2,v3]/\OwnV W' ga tA [u0,u1]/\Below B w0 W'/\Only (fun k=>k=gu∨k=ga) w W':=
 ⟨_,rfl,((((((hU.set 0 v0).set 1 v1).set 2 v2).set 3 v3).set_ne hne _).set_ne hne _),(((((hA.set_ne hne.symm v0).set_ne hne.symm v1).set_ne hne.symm v2).set_ne hne.symm v3).set 0 u0).set 1 u1,(((((hb.setCell h1 _).setCell h1 _).setCell h1 _).setCell h1 _).setCell h2 _).setCell h2 _,((((((Only.refl (fun k=>k=gu∨k=ga) w).setIn (.inl rfl) _).setIn (.inl rfl) _).setIn (.inl rfl) _).setIn (.inl rfl) _).setIn (.inr rfl) _).setIn (.inr rfl) _⟩
theorem zo8 {w w':World} {g:Nat} {e:TypeId} {vs:List Value} {row:Option Nat} (h:OwnV w g e vs) (hg:w.grownBy w' row) (hne:row≠some g):OwnV w' g e vs:=h.grown hg (fun e=>hne e.symm)
theorem zpd {w:World} {B B':Nat} {e e':TypeId} {s s' n n':Nat} {v v':Value} {xs xs':List Value} (h:w.ownsRow B e s v n xs) (k:w.ownsRow B' e' s' v' n' xs') (hne:e≠e'):∀ g,v.ownBlock=some g->v'.ownBlock≠some g:=by
 intro g hg hg';obtain ⟨_,h2⟩:=h;obtain ⟨_,k2⟩:=k;rcases h2 with ⟨rfl,_⟩ | ⟨g1,c1,cur1,rfl,_,hh,_⟩
 ·cases hg
 ·rcases k2 with ⟨rfl,_⟩ | ⟨g2,c2,cur2,rfl,_,kk,_⟩
  ·cases hg'
  ·cases hg;cases hg';rw [hh] at kk;cases kk;exact hne rfl
def chks (gb gp gpr gat : Nat) : List Value := [.func (.func 45) #[] #[.pointer (some ⟨gb, 0, none⟩), .pointer (some ⟨gpr, 0, none⟩), .pointer (some ⟨gp, 0, none⟩)], .func (.func 47) #[] #[.pointer (some ⟨gp, 0, none⟩), .pointer (some ⟨gb, 0, none⟩)], .func (.func 48) #[] #[.pointer (some ⟨gp, 0, none⟩), .pointer (some ⟨gb, 0, none⟩)], .func (.func 49) #[] #[.pointer (some ⟨gpr, 0, none⟩), .pointer (some ⟨gp, 0, none⟩), .pointer (some ⟨gat, 0, none⟩), .pointer (some ⟨gb, 0, none⟩)], .func (.func 52) #[] #[.pointer (some ⟨gb, 0, none⟩), .pointer (some ⟨gp, 0, none⟩)], .func (.func 54) #[] #[.pointer (some ⟨gb, 0, none⟩)]]
def atI (S : ScS) (i : Nat) : Int × Int := (if 3 < i then S.line else 0, if 3 < i then S.col else 0)
theorem zrH {B:Nat} {w3:World} {ys:List Sys} {b:Bk} {p:Pt} {vs vc vp:Value} {bm gb gp gpr gat gf m:Nat} (h:SIn B w3 ys b p vs vc vp bm gb gp gpr gat m 0 0 0 w3) (hc:SC B w3 bm gb gp gpr gat m) (hOk:BkOk ys b) (hs:p.src.length<=9223372036854775807) (hR:OwnV w3 gf 103 (chks gb gp gpr gat)) (hf1:gf≠bm) (hf2:gf≠gat) :
  Calls Tryz.prog 44 #[.slice (some ⟨gf,0,none⟩) 6 6] w3 (zr5 (subs ys b p) (fun i W=>SIn B w3 ys b p vs vc vp bm gb gp gpr gat m (50 * i) (atI (znC p.src) i).1 (atI (znC p.src) i).2 W) 6):=
 zqk (g:=gf) (cap:=6) (cs:=chks gb gp gpr gat) h (fun i W hi=>hi.only.own hR (by rintro (e | e);exact hf1 e;exact hf2 e)) rfl (by simp [chks]) (fun i W v hi hv=>by
  match i,hi,hv with
  | 0,hi,hv=>cases hv;exact ⟨_,_,rfl,zrc _,(zsW hi hc hOk (by omega)).mono fun e w' h=>⟨h.1,h.2.mono (by omega)⟩⟩
  | 1,hi,hv=>cases hv;exact ⟨_,_,rfl,zrd _,(zsX hi hc).mono fun e w' h=>⟨h.1,h.2.mono (by omega)⟩⟩
  | 2,hi,hv=>cases hv;exact ⟨_,_,rfl,zre _,(zsY hi hc).mono fun e w' h=>⟨h.1,h.2.mono (by omega)⟩⟩
  | 3,hi,hv=>cases hv;exact ⟨_,_,rfl,zrf _,(zs4 hi hc hs (by omega)).mono fun e w' h=>⟨h.1,h.2.mono (by omega)⟩⟩
  | 4,hi,hv=>cases hv;exact ⟨_,_,rfl,zrg _,(zs0 hi hc).mono fun e w' h=>⟨h.1,h.2.mono (by omega)⟩⟩
  | 5,hi,hv=>cases hv;exact ⟨_,_,rfl,zrh _,(zsZ hi hc).mono fun e w' h=>⟨h.1,h.2.mono (by omega)⟩⟩
  | i+6,hi,hv=>simp [chks] at hv)
theorem zpw {w:World} {ys:List Sys} {b:Bk} {p:Pt} {vs vc vp:Value} (hG:Glob w) (hOk:BkOk ys b) (hp:p.src.length<=9223372036854775807) (hB:BkIn w.heap.size w ys b vs vc vp) :
  Calls Tryz.prog 18 #[bkV b vs vc vp,p.val] w fun e w'=>SubE w w' ys (znC p.src) e (znO (znI ys) (errE ys) b p)/\Below w.heap.size w w':=by
 obtain ⟨ay,cs,rfl,hcs1,hcs2⟩:=hB.sys.form;obtain ⟨ac,cc,rfl,hcc1,hcc2⟩:=hB.scr.form;obtain ⟨ap,cp,rfl,hcp1,hcp2⟩:=hB.pend.form;obtain ⟨t,s,src⟩:=p;obtain ⟨W0,hW0,hb0,hX,hY,hU,hA,hs0⟩:=boxes4 w [.int .i64 b.tick,.slice ay ys.length cs,.slice ac b.scr.length cc,.slice ap b.pend.length cp] [.int .i64 t,.int .i64 s,.string (bstr src)] [.int .i64 0,.slice none 0 0,.slice none 0 0,.slice none 0 0] [.int .i64 0,.int .i64 0] 26 32 26 38;have hgl:=hG.size;have hs0a:W0.heap.size<=w.heap.size+4:=by omega
 have hs0b:w.heap.size+4<=W0.heap.size:=by omega
 clear hs0;unfold bkV Pt.val;simp only;have HN:=zh (zo7 W0);have HG:=zh hG;have HOk:=zh hOk;have HB:=zh hB;have HX:=zh hX;have HY:=zh hY;have HU:=zh hU;have HA:=zh hA;have Hb0:=zh hb0;have HW0:=zh hW0;have hmf:=zmf Tryz.prog
 obtain ⟨final,hfin⟩:∃ r,znO (znI ys) (errE ys) b ⟨t,s,src⟩=r:=⟨_,rfl⟩;have Hfin:=zh hfin;rw [hfin];clear hfin hG hOk hB hX hY hU hA hb0 hW0;go_enter Tryz.func18,Tryz.ntmps18
 go_upto_region 1 with (fail)
 rw [<- HW0.out];go_wp2_with fail
 go_at_call 43;refine HN.out.mono ?_;rintro e1 w1 ⟨rfl,hp1,hb1,hs1⟩;have hs1a:w1.heap.size<=W0.heap.size+2:=by omega
 have hs1b:W0.heap.size+2<=w1.heap.size:=by omega
 clear hs1;have hb1':Below w.heap.size w w1:=Hb0.out.trans (hb1.mono (by omega));have hX1:=HX.out.below hb1 (zr _);have hY1:=HY.out.below hb1 (zr _);have hU1:=HU.out.below hb1 (zr _);have hA1:=HA.out.below hb1 (zr _);obtain ⟨W3,hW3,hb3,hR3,hT3,hF3,hs3⟩:=zpH w1 [.map (some (W0.heap.size+1))] [.int .i64 0,.int .i64 0] (chks w.heap.size (w.heap.size+1) w1.heap.size (w1.heap.size+1)) 99 38 103;have hs3a:W3.heap.size<=w1.heap.size+3:=by omega
 have hs3b:w1.heap.size+3<=W3.heap.size:=by omega
 clear hs3
 have hSC:SC w.heap.size W3 (W0.heap.size+1) w.heap.size (w.heap.size+1) w1.heap.size (w1.heap.size+1) W3.heap.size:=
  ⟨by omega,by omega,by omega,by omega,by omega,by omega,by omega,by omega,by omega,by omega,by omega,by omega,by omega⟩
 have hb13:Below w.heap.size w W3:=hb1'.trans (hb3.mono (by omega))
 have hSI:SIn w.heap.size W3 ys b ⟨t,s,src⟩ (.slice ay ys.length cs) (.slice ac b.scr.length cc) (.slice ap b.pend.length cp) (W0.heap.size+1) w.heap.size (w.heap.size+1) w1.heap.size (w1.heap.size+1) W3.heap.size 0 0 0 W3:=
  ⟨Only.refl _ _,HG.out.below hb13 hgl,(hp1 _ (by omega)).below hb3,HB.out.below hb13,hX1.below hb3 (zr _),hY1.below hb3 (zr _),hR3,hT3,zr _⟩
 have HCh:=zh (zrH (gf:=w1.heap.size+2) hSI hSC HOk.out hp hF3 (by omega) (by omega));have HU3:=zh (hU1.below hb3 (zr _));have HA3:=zh (hA1.below hb3 (zr _));have HSC:=zh hSC;have Hb13:=zh hb13;unfold chks at hW3;have HW3:=zh hW3;clear hp1 hb1 hb1' hX1 hY1 hU1 hA1 hW3 hb3 hR3 hT3 hF3 hSC hb13 hSI HX HY HU HA HB HG HN;go_wp2_with fail
 go_at_call 44;rw [<- HW3.out];refine HCh.out.mono ?_;rintro e3 w4 ⟨x,j,rfl,hfe,hI⟩;have HI:=zh hI;have hs4:=hI.only.size;have hU4:=hI.only.own HU3.out (by omega);have hA4:=hI.only.own HA3.out (by omega);have Hb4:Hid (Below w.heap.size w w4):=zh (Hb13.out.trans (hI.only.below (fun k e=>by omega) (by omega)));have HU4:=zh hU4;have HA4:=zh hA4;have hlaw:=zs5 hfe;rw [Hfin.out] at hlaw;have Hlaw:=zh hlaw;clear hfe hI hlaw HCh hU4 hA4;by_cases hx:x=0
 case neg =>
  have hx2:(x != 0)=true:=by simpa using hx
  have Hx:=zh hx;obtain ⟨c0,c1⟩:=yc2 HI.out.atb;obtain ⟨u0,u1,u2,u3⟩:=yc4 HU4.out;have uf:=HU4.out.free;obtain ⟨v0,v1⟩:=yc2 HA4.out;have vf:=HA4.out.free;obtain ⟨W6,hW6,hU6,hA6,hb6,-⟩:=put42 HU4.out HA4.out (by omega) Hb4.out (by omega) (by omega) (.int .i64 0) (.slice none 0 0) (.slice none 0 0) (.slice none 0 0) (.int .i64 (atI (znC src) j).1) (.int .i64 (atI (znC src) j).2);have HW6:=zh hW6;have HU6:=zh hU6.drew;have HA6:=zh hA6.drew;have Hb6:=zh hb6;clear hx hW6 hU6 hA6 hb6;go_wp2_with fail
  go_region
  go_wp2_with fail
  rw [<- HW6.out];obtain ⟨q0,q1,q2,q3⟩:=yc4 HU6.out;obtain ⟨r0,r1⟩:=yc2 HA6.out;refine yE (v:=.tuple #[zor,.agg #[.int .i64 (atI (znC src) j).1,.int .i64 (atI (znC src) j).2],.int .i64 x]) (by simp [results,Tryz.results18,go_sem,q0,q1,q2,q3,r0,r1,zor]) rfl ⟨?_,Hb6.out.drew⟩;rcases Hlaw.out with ⟨e,-⟩ | ⟨-,q,rfl,h1,h2⟩
  ·exact absurd e Hx.out
  ·exact ⟨by rw [show (atI (znC src) j).1=cond q (znC src).line 0 from h1,show (atI (znC src) j).2=cond q (znC src).col 0 from h2],Hx.out⟩
 case pos =>
  subst hx
  obtain ⟨p1,rfl⟩:znO (znI ys) (errE ys) b ⟨t,s,src⟩=(some { b with pend:=zok ⟨t,s,src⟩ b.pend },false,0)/\final=(some { b with pend:=zok ⟨t,s,src⟩ b.pend },false,0):=by
   rcases Hlaw.out with ⟨-,e⟩ | ⟨e,-⟩
   ·exact ⟨Hfin.out.trans e,e⟩
   ·exact absurd rfl e
  obtain ⟨hv,-⟩:=zqF p1;have hy16:=zph hv.sys;have hv1:=hv.many;have hv2:=hv.room;have HOw:=zh (zrn HI.out.bk (by omega) (by omega) (by omega) (by omega));unfold bkV at HOw;obtain ⟨x0,x1,x2,x3⟩:=yc4 HI.out.box;clear Hfin Hlaw p1 hv;go_wp2_with fail
  go_at_call 55;refine HOw.out.mono ?_;rintro e5 w5 ⟨⟨us,uc,up,rfl,hO5⟩,hb5⟩;obtain ⟨a5,k5,rfl,-,-⟩:=Sl.form (Sl.of_own hO5.sys);obtain ⟨a6,k6,rfl,-,-⟩:=Sl.form (Sl.of_own hO5.scr);obtain ⟨a7,k7,rfl,-,-⟩:=Sl.form (Sl.of_own hO5.pend);have hs5:=hb5.size;have hbx:=HI.out.box.below hb5 (zr _);obtain ⟨b0,b1,b2,b3⟩:=yc4 hbx;have bf:=hbx.free;obtain ⟨W6,hW6,hX6,hg6⟩:=set4 hbx (.int .i64 b.tick) (.slice a5 ys.length k5) (.slice a6 b.scr.length k6) (.slice a7 b.pend.length k7);have ho6:Only (fun k=>k=w.heap.size) w5 W6:=Only.of_grown hg6 (fun r e=>by cases e;rfl);have hs6:=ho6.size
  have HO6:Hid (BkOwn w4.heap.size W6 ys b (.slice a5 ys.length k5) (.slice a6 b.scr.length k6) (.slice a7 b.pend.length k7)):=zh
   ⟨ho6.row hO5.sys (fun g hg e=>by have:=(hO5.sys.lt g hg).1;omega),ho6.row hO5.scr (fun g hg e=>by have:=(hO5.scr.lt g hg).1;omega),ho6.row hO5.pend (fun g hg e=>by have:=(hO5.pend.lt g hg).1;omega)⟩
  have HX6:=zh hX6;have HY6:=zh (ho6.own (HI.out.pbox.below hb5 (zr _)) (by omega));have HU6:=zh (ho6.own (HU4.out.below hb5 (zr _)) (by omega));have HA6:=zh (ho6.own (HA4.out.below hb5 (zr _)) (by omega));have Hb6:=zh (Hb4.out.trans ((hb5.mono (by omega)).trans (ho6.below (B:=w.heap.size) (fun k e=>by omega) (by omega))));have HW6:=zh hW6;clear hb5 hbx hO5 hW6 hX6 hg6 ho6 HI HU4 HA4 Hb4 HU3 HA3 x0 x1 x2 x3 HOw;go_upto_region 7 with (fail)
  rw [<- HW6.out];clear b0 b1 b2 b3 bf;have hPt:Pts W6 b.pend (.slice a7 b.pend.length k7):=Sl.of_own HO6.out.pend;have HIx:=zh (zry b.pend _ (fun y=>decide (t < y.tick)) (.pointer (some ⟨w.heap.size+1,0,none⟩)) W6 W6.heap.size hPt (Sl.low0 (by omega) hPt) (zr _) (fun k hk W hb=>zrB (x:=⟨t,s,src⟩) _ (HY6.out.below hb (zr _))));have x3:=HX6.out.cell (i:=3) rfl;clear hPt;go_wp2_with fail
  go_at_call 56;refine HIx.out.mono ?_;rintro e7 w7 ⟨⟨i,rfl,hi⟩,hb7⟩;have hs7:=hb7.size;have HO7:Hid (BkOwn w4.heap.size w7 ys b (.slice a5 ys.length k5) (.slice a6 b.scr.length k6) (.slice a7 b.pend.length k7)):=zh ⟨zbu HO6.out.sys hb7 (zr _),zbu HO6.out.scr hb7 (zr _),zbu HO6.out.pend hb7 (zr _)⟩;have HX7:=zh (HX6.out.below hb7 (zr _));have HY7:=zh (HY6.out.below hb7 (zr _));have HU7:=zh (HU6.out.below hb7 (zr _));have HA7:=zh (HA6.out.below hb7 (zr _));have Hb7:=zh (Hb6.out.trans (hb7.mono (by omega)));have hup:=zqQ hi
  obtain ⟨k,hki,hkl,hkp⟩:∃ k:Nat,(if i < 0 then (b.pend.length:Int) else i)=k/\k<=b.pend.length/\b.pend.take k++⟨t,s,src⟩ :: b.pend.drop k=zok ⟨t,s,src⟩ b.pend:=by
   refine ⟨_,hup,(List.takeWhile_sublist _).length_le,?_⟩;obtain ⟨e1,e2⟩:=zro t b.pend;rw [e1,e2];rfl
  have Hkp:=zh hkp;obtain ⟨W8,hW8,hb8,hP8,hs8⟩:=box1 w7 [.int .i64 t,.int .i64 s,.string (bstr src)] 32;have HI8:=zh (zrG (B:=w4.heap.size) (p:=⟨t,s,src⟩) (zbu HO7.out.pend hb8 (zr _)) (by omega) (by omega) hkl hP8 (fun e=>by have:=(HO7.out.pend.lt _ e).2;omega));have HO8:Hid (BkOwn w4.heap.size W8 ys b (.slice a5 ys.length k5) (.slice a6 b.scr.length k6) (.slice a7 b.pend.length k7)):=zh ⟨zbu HO7.out.sys hb8 (zr _),zbu HO7.out.scr hb8 (zr _),zbu HO7.out.pend hb8 (zr _)⟩;have HX8:=zh (HX7.out.below hb8 (zr _));have HU8:=zh (HU7.out.below hb8 (zr _));have HA8:=zh (HA7.out.below hb8 (zr _));have Hb8:=zh (Hb7.out.trans (hb8.mono (by omega)));have hs8b:=hb8.size;have HW8:=zh hW8;obtain ⟨y0,y1,y2⟩:=yc3 HY7.out;have z3:=HX7.out.cell (i:=3) rfl;clear hb7 hi hup hkp hW8 hb8 hP8 HO6 HX6 HY6 HU6 HA6 Hb6 HO7 HU7 HA7 x3 hs8;by_cases hneg:i < 0
  case' pos =>
   rw [yP hneg] at hki
  case' neg =>
   rw [yN hneg] at hki;subst hki
  all_goals
   go_wp2_with fail
   go_at_call 58
  all_goals
   rw [<- HW8.out];refine HI8.out.mono ?_;rintro e9 w9 ⟨⟨v9,rfl,ho9⟩,hb9,hg9⟩;obtain ⟨a9,k9,rfl,-,-⟩:=Sl.form (Sl.of_own ho9);have hs9:=hb9.size;have hX9:=zo8 HX8.out hg9 (fun e=>by have:=(HO8.out.pend.lt _ e).1;omega);have hU9:=zo8 HU8.out hg9 (fun e=>by have:=(HO8.out.pend.lt _ e).1;omega);have hA9:=zo8 HA8.out hg9 (fun e=>by have:=(HO8.out.pend.lt _ e).1;omega);have hS9:=zn3 hg9 HO8.out.sys (zpd HO8.out.sys HO8.out.pend (by decide));have hC9:=zn3 hg9 HO8.out.scr (zpd HO8.out.scr HO8.out.pend (by decide));have b3:=hX9.cell (i:=3) rfl;have bf:=hX9.free;obtain ⟨W10,hW10,hX10,ho10⟩:∃ W10,W10=w9.setCell ⟨w.heap.size,3,none⟩ (.slice a9 (b.pend.length+1) k9)/\OwnV W10 w.heap.size 26 [.int .i64 b.tick,.slice a5 ys.length k5,.slice a6 b.scr.length k6,.slice a9 (b.pend.length+1) k9]/\Only (fun k=>k=w.heap.size) w9 W10:=⟨_,rfl,hX9.set 3 _,(Only.refl (fun k=>k=w.heap.size) w9).setIn rfl _⟩;have hs10:=ho10.size;have Hb10:=zh (Hb8.out.trans ((hb9.mono (by omega)).trans (ho10.below (B:=w.heap.size) (fun k e=>by omega) (by omega))));have hr1:=ho10.row hS9 (fun g hg e=>by have:=(hS9.lt g hg).1;omega);have hr2:=ho10.row hC9 (fun g hg e=>by have:=(hC9.lt g hg).1;omega);have hr3:=ho10.row ho9 (fun g hg e=>by have:=(ho9.lt g hg).1;omega);have hU10:=ho10.own hU9 (by omega);have hA10:=ho10.own hA9 (by omega);have HW10:=zh hW10;have HX10:=zh hX10;clear hW10 ho10 hb9 hg9 hS9 hC9 ho9 hX9 hU9 hA9 hX10 y0 y1 y2 z3;go_upto_region 11 with (fail)
   rw [<- HW10.out];clear b3 bf;obtain ⟨b0,b1,b2,b3⟩:=yc4 HX10.out;obtain ⟨u0,u1,u2,u3⟩:=yc4 hU10;have uf:=hU10.free;obtain ⟨v0,v1⟩:=yc2 hA10;have vf:=hA10.free;obtain ⟨W11,hW11,hU11,hA11,hb11,ho11⟩:=put42 hU10 hA10 (by omega) Hb10.out (by omega) (by omega) (.int .i64 b.tick) (.slice a5 ys.length k5) (.slice a6 b.scr.length k6) (.slice a9 (b.pend.length+1) k9) (.int .i64 0) (.int .i64 0);have Hr1:=zh (znE (ho11.row hr1 (fun g hg e=>by have:=(hr1.lt g hg).1;omega)) (B':=w.heap.size) (by omega));have Hr2:=zh (znE (ho11.row hr2 (fun g hg e=>by have:=(hr2.lt g hg).1;omega)) (B':=w.heap.size) (by omega));have Hr3:=zh (znE (ho11.row hr3 (fun g hg e=>by have:=(hr3.lt g hg).1;omega)) (B':=w.heap.size) (by omega));have HW11:=zh hW11;have HU11:=zh hU11;have HA11:=zh hA11;have Hb11:=zh hb11;clear hW11 hU11 hA11 hb11 ho11 hr1 hr2 hr3 hU10 hA10;go_wp2_with fail
   rw [<- HW11.out];obtain ⟨q0,q1,q2,q3⟩:=yc4 HU11.out;obtain ⟨r0,r1⟩:=yc2 HA11.out;refine yE (v:=.tuple #[.agg #[.int .i64 b.tick,.slice a5 ys.length k5,.slice a6 b.scr.length k6,.slice a9 (b.pend.length+1) k9],.agg #[.int .i64 0,.int .i64 0],.int .i64 0]) (by simp [results,Tryz.results18,go_sem,q0,q1,q2,q3,r0,r1]) rfl ⟨⟨_,_,_,rfl,Hr1.out,Hr2.out,?_⟩,Hb11.out⟩;show World.ownsRow W11 _ _ _ _ (zok ⟨t,s,src⟩ b.pend).length (znD (zok ⟨t,s,src⟩ b.pend));rw [zrk,<- Hkp.out];exact Hr3.out

theorem BkOwn.bk {B:Nat} {w:World} {ys:List Sys} {b:Bk} {vs vc vp:Value} (h:BkOwn B w ys b vs vc vp):BkIn w.heap.size w ys b vs vc vp:=
 ⟨Sl.of_own h.sys,Sl.of_own h.scr,Sl.of_own h.pend,Sl.low0 (by omega) (Sl.of_own h.sys),Sl.low0 (by omega) (Sl.of_own h.scr),Sl.low0 (by omega) (Sl.of_own h.pend)⟩
theorem BkIn.next {w w':World} {ys:List Sys} {b:Bk} {vs vc vp:Value} (h:BkIn w.heap.size w ys b vs vc vp) (hb:Below w.heap.size w w'):BkIn w'.heap.size w' ys b vs vc vp:=(h.below hb).mono hb.size
theorem zsw (s:ByteArray):bstr s.data.toList=s:=by cases s;unfold bstr;simp
theorem zqC (w:World):Calls Tryz.prog 40 #[] w fun e w'=>e=.returned (bkV awB (.slice (some ⟨w.heap.size+1,0,none⟩) 1 1) (.slice (some ⟨w.heap.size+1+1,0,none⟩) 1 1) (.slice none 0 0))/\BkOwn w.heap.size w' awY awB (.slice (some ⟨w.heap.size+1,0,none⟩) 1 1) (.slice (some ⟨w.heap.size+1+1,0,none⟩) 1 1) (.slice none 0 0)/\Below w.heap.size w w':=by
 obtain ⟨W3,hW3,hb3,hX,hY,hZ,hs3⟩:=zpH w [.int .i64 10,.slice (some ⟨w.heap.size+1,0,none⟩) 1 1,.slice (some ⟨w.heap.size+1+1,0,none⟩) 1 1,.slice none 0 0] [.string { data:=#[104,101,97,108] },.int .u32 0,.int .u32 256,.int .i64 0] [.string { data:=#[108,105,102,101,91,48,93,32,61,32,108,105,102,101,91,48,93,32,43,32,49,59] }] 26 61 9;have HX:=zh hX
 have HO:Hid (BkOwn w.heap.size W3 awY awB (.slice (some ⟨w.heap.size+1,0,none⟩) 1 1) (.slice (some ⟨w.heap.size+1+1,0,none⟩) 1 1) (.slice none 0 0)):=zh
  ⟨⟨rfl,.inr ⟨_,1,_,rfl,by omega,hY,zr _,by decide,rfl,rfl⟩⟩,⟨rfl,.inr ⟨_,1,_,rfl,by omega,hZ,zr _,by decide,rfl,rfl⟩⟩,⟨rfl,.inl ⟨rfl,rfl⟩⟩⟩
 have HW3:=zh hW3;have Hb3:=zh hb3;clear hX hY hZ hW3 hb3 hs3;go_enter Tryz.func40,Tryz.ntmps40
 go_wp2_with fail
 rw [<- HW3.out];obtain ⟨q0,q1,q2,q3⟩:=yc4 HX.out;exact yE (v:=.agg #[.int .i64 10,.slice (some ⟨w.heap.size+1,0,none⟩) 1 1,.slice (some ⟨w.heap.size+1+1,0,none⟩) 1 1,.slice none 0 0]) (by simp [results,Tryz.results40,go_sem,q0,q1,q2,q3]) rfl ⟨rfl,HO.out,Hb3.out⟩
theorem ztr {w:World} {ys:List Sys} {b:Bk} {tick slot:Int} {src:ByteArray} {vs vc vp:Value} (hG:Glob w) (hOk:BkOk ys b) (hp:src.size<=9223372036854775807) (hB:BkIn w.heap.size w ys b vs vc vp) {q:Bool} {x:Int} (hr:znO (znI ys) (errE ys) b ⟨tick,slot,src.data.toList⟩=(none,q,x)) :
  Calls Tryz.prog 41 #[bkV b vs vc vp,.int .i64 tick,.int .i64 slot,.string src] w fun e w'=>e=.returned (.int .i64 x)/\Below w.heap.size w w':=by
 obtain ⟨ay,cs,rfl,hcs1,hcs2⟩:=hB.sys.form;obtain ⟨ac,cc,rfl,hcc1,hcc2⟩:=hB.scr.form;obtain ⟨ap,cp,rfl,hcp1,hcp2⟩:=hB.pend.form;obtain ⟨W0,hW0,hb0,hX,hs0⟩:=box1 w [.int .i64 b.tick,.slice ay ys.length cs,.slice ac b.scr.length cc,.slice ap b.pend.length cp] 26;have HS:=zh (zpw (p:=⟨tick,slot,src.data.toList⟩) (hG.below hb0 hG.size) hOk hp (hB.next hb0));rw [hr] at HS;have hs0a:W0.heap.size<=w.heap.size+1:=by omega
 have hs0b:w.heap.size+1<=W0.heap.size:=by omega
 unfold bkV Pt.val at HS;unfold bkV;simp only at HS;rw [show bstr src.data.toList=src from zsw src] at HS;obtain ⟨x0,x1,x2,x3⟩:=yc4 hX;have Hb0:=zh hb0;have HW0:=zh hW0;clear hG hOk hB hr hX hb0 hW0 hs0;go_enter Tryz.func41,Tryz.ntmps41
 go_upto_region 1 with (fail)
 rw [<- HW0.out];go_wp2_with fail
 go_at_call 18;refine HS.out.mono ?_;rintro e1 w1 ⟨⟨rfl,hx⟩,hb1⟩;have Hb1:=zh (Hb0.out.trans (hb1.mono (by omega)));have hs1:=hb1.size;clear hx hb1 HS x0 x1 x2 x3;unfold zor;go_wp2_with fail
 go_ret;exact ⟨rfl,(Hb1.out.alloc Hb1.out.size _).alloc (by have:=Hb1.out.size;simp;omega) _⟩
end Go.Proofs.YtdhikpkecmaplaaGreatDoor

/- The program's Parse and Expr, walked. -/
import Derived.Test.YtoaojdobjinhfaaGreatDoorBackSC
import Derived.Test.YtoaojdobjinhfaaGreatDoorPaYC
import Derived.Test.YtoaojdobjinhfaaGreatDoorPenvMC
set_option linter.unusedSimpArgs false
set_option linter.unusedVariables false
set_option maxRecDepth 100000
set_option maxHeartbeats 1000000
namespace Go.Proofs.YtoaojdobjinhfaaGreatDoor
open Go.RowKit

theorem zln {w:World} {l:List Tok} {v:Value} {g:Nat} {e:TypeId} {vs:List Value} (hT:Toks w l v) (hl:0 < l.length) (h:OwnV w g e vs) (hv:vs.length < 5):∀ b,v.ownBlock=some b→b≠g:=by
 intro b hb;obtain ⟨a,cap,rfl,-,-⟩:=Sl.form hT;obtain ⟨b',off,rfl,-,-,-,-,c4⟩:=zaF hT hl;cases hb;rintro rfl;unfold OwnV at h;simp only [World.cell?,h,List.getElem?_toArray] at c4;rw [List.getElem?_eq_none (by omega)] at c4;cases c4
def ofRR (r : RR (List St)) : ParR := match r with
  | .ok xs => .ok xs
  | .err a b c => .err a b c
theorem zms (bs:List UInt8):zbg bs=ofRR (zdp bs fun l=>allS l (l.length+1) [] 0):=by
 unfold zbg zdp
 cases lexS bs with
 | err a b c=>rfl
 | ok l =>
  show (match allS l (l.length+1) [] 0 with
   | .ok xs _=>ParR.ok xs
   | .err i c=>.err (zaa l i).line (zaa l i).col c)=ofRR (zeD l (allS l (l.length+1) [] 0))
  cases h:allS l (l.length+1) [] 0 with
  | err i c=>rfl
  | ok xs j=>rw [ze7 (znf _ _ _ _ _ h)];rfl
def ofRX (r : RR Ex) : ParX := match r with
  | .ok x => .ok x
  | .err a b c => .err a b c
theorem zmt (bs:List UInt8):zbT bs=ofRX (zdp bs fun l=>zbv l 0 0):=by
 unfold zbT zdp
 cases lexS bs with
 | err a b c=>rfl
 | ok l =>
  show (match zf4 l with
   | .ok x _=>ParX.ok x
   | .err i c=>.err (zaa l i).line (zaa l i).col c)=ofRX (zeD l (zbv l 0 0))
  have hr:zf4 l=(zaA l 0 0 1).andThen fun x j=>if (zaa l j).kind=4 then .ok x j else .err j 120:=rfl
  rcases zfP l 0 0 with e | ⟨x,j,e1,e2,e3⟩
  ·rw [e,hr]
   cases zaA l 0 0 1 with
   | err i c=>rfl
   | ok x j =>
    show (match (if (zaa l j).kind=4 then PR.ok x j else .err j 120) with
      | .ok x _=>ParX.ok x
      | .err i c=>.err (zaa l i).line (zaa l i).col c)=_
    by_cases hk:(zaa l j).kind=4
    ·rw [ze7 hk,if_pos hk];rfl
    ·rw [zfR hk,if_neg hk];rfl
  ·rw [hr,e1,e2,zfR (fun h=>by have:=zdw h;omega)];rfl
theorem zgi {bs:List UInt8} {a b c:Int} (h:zbg bs=.err a b c):c≠0:=by
 unfold zbg at h
 cases hl:lexS bs with
 | err a' b' c'=>rw [hl] at h;cases h;exact zd9 hl
 | ok l =>
  rw [hl] at h
  cases ha:allS l (l.length+1) [] 0 with
  | ok xs j=>simp only [ha] at h;cases h
  | err i c' =>
   simp only [ha] at h;cases h;exact (all_cd l _ _ _ _ _ (by omega) (Nat.zero_le _) ha).ne
theorem ziW {bs:List UInt8} {a b c:Int} (h:zbT bs=.err a b c):c≠0:=by
 unfold zbT at h
 cases hl:lexS bs with
 | err a' b' c'=>rw [hl] at h;cases h;exact zd9 hl
 | ok l =>
  rw [hl] at h
  cases ha:zf4 l with
  | ok xs j=>simp only [ha] at h;cases h
  | err i c' =>
   simp only [ha] at h;cases h;rcases PR.bind_err ha with h1 | ⟨x,j,-,h1⟩
   ·exact (zeA l 0 _ _ _ _ _ (Nat.zero_le _) (Nat.zero_le _) h1).ne
   ·split at h1
    ·cases h1
    ·cases h1;decide
def PrgE (w w' : World) (e : Ending) : ParR → Prop
  | .ok xs => ∃ v, e = .returned (.tuple #[v, .int .i64 0, .int .i64 0, .int .i64 0]) ∧ (∃ cs, w'.ownsRow w.heap.size 56 6 v xs.length cs ∧ StsC w' (fun g => w.heap.size ≤ g) xs cs)
  | .err a b c => e = .returned (.tuple #[.slice none 0 0, .int .i64 a, .int .i64 b, .int .i64 c]) ∧ c ≠ 0
theorem zj3 {W:World} {p gl m:Nat} {v:Value} {l:List Tok} (h:PSt W p v l 0 0) (hE:PEnv l) (hl:OwnV W gl 24 [.slice none 0 0]) (hne:gl≠p) (hm:m≤W.heap.size) :
  Calls Tryz.prog 59 #[.pointer (some ⟨p,0,none⟩),.pointer (some ⟨gl,0,none⟩)] W (OpE l p v 0 (fun b=>b=p∨b=gl) W (TsBox m gl) (allS l (l.length+1) [] 0)):=by
 have HC:=zh (zio h hE);have hvl:=zln h.toks h.here hl (by decide);have Hl:=zh hl;have hglt:=hl.lt;rw [Nat.sub_zero] at HC
 generalize allS l (l.length+1) [] 0=R at *
 clear h hE hl;go_enter Tryz.func59,Tryz.ntmps59
 go_wp2_with fail
 go_at_call 60;refine HC.out.mono ?_;intro e1 w1 he1;clear HC
 cases R with
 | err a c =>
  obtain ⟨he1,hT1⟩:=he1;unfold Bad at he1;subst he1;have HT1:=zh hT1;clear hT1;go_wp2_with fail
  exact ⟨rfl,rfl,HT1.out.mono fun _ _ e=>.inl e⟩
 | ok xs j =>
  obtain ⟨u,rfl,⟨cs,hR,hX⟩,hP,hT⟩:=he1;have HX:Hid (TsV W.heap.size w1 xs u):=zh ⟨cs,hR,hX⟩;obtain ⟨ua,cap,rfl,-,-⟩:=Sl.form (Sl.of_own hR);have hO:=hT.own Hl.out hne;have x0:=hO.cell (i:=0) rfl;have xf:=hO.free;have HO:=zh hO;have HP:=zh hP;have HT:=zh hT;clear hR hX hO hP hT;go_wp2_with fail
  have hW:=(Turns.refl gl w1).set 0 (.slice ua xs.length cap);exact bodyPost_ret (results_none rfl _ _ _) rfl ⟨rfl,⟨_,HO.out.set 0 _,(HX.out.only hW (fun b e=>by omega)).low hm⟩,HP.out.only hW (fun e=>hne e.symm) (fun b hb e=>hvl b hb e),(HT.out.mono fun _ _ e=>.inl e).setCell (.inr (.inr rfl)) _⟩
theorem zho (args:Array Value) (W:World):(callFunc 59 args).run Tryz.prog W=.ok (.enter 59 args) W:=(enters_of (P:=Tryz.prog) Tryz.func59 (by kernel_rfl) rfl) args W
theorem zbP {w:World} (hG:Glob w) (s:ByteArray) (hs:s.size≤9223372036854775807) :
  Calls Tryz.prog 31 #[.string s] w fun e w'=>PrgE w w' e (zbg s.data.toList)∧Below w.heap.size w w':=by
 obtain ⟨W0,hW0,hb0,hO0⟩:∃ W0,W0=w.alloc (.cells #[.slice none 0 0] 24)∧Below w.heap.size w W0∧OwnV W0 w.heap.size 24 [.slice none 0 0]:=⟨_,rfl,(Below.refl _ _).alloc (zr _) _,OwnV.new _ _ _⟩;have hmf:=zmf Tryz.prog
 have hlt:=hO0.lt
 have HC:=zh (zhd (hG.below hb0 hG.size) s hs 59 w.heap.size (fun b=>b=w.heap.size) (fun b e=>by omega) (TsBox (W0.heap.size+3) w.heap.size) (fun l=>allS l (l.length+1) [] 0)
  (fun W W' x hx ho=>by
   obtain ⟨u,hO,hX⟩:=hx
   exact ⟨u,ho.own hO (fun e=>by omega),hX.only ho (fun b e=>e.2)⟩)
  zho (fun l p v W hlx hb hp hP=>zj3 hP (zfQ hlx) (hO0.below hb (zr _)) (by omega) (by have:=hP.lt;omega)))
 have hpc:∀ a b c,zbg s.data.toList=.err a b c→c≠0:=fun a b c h=>zgi h
 rw [zms] at hpc ⊢
 generalize (zdp s.data.toList fun l=>allS l (l.length+1) [] 0)=R at *
 have HW0:=zh hW0;have Hb0:=zh hb0;clear hW0 hb0 hO0 hG;go_enter Tryz.func31,Tryz.ntmps31
 go_upto_region 2 with (fail)
 rw [← HW0.out];go_wp2_with fail
 go_at_call 58;refine HC.out.mono ?_;intro e1 w1 he1;clear HC
 cases R with
 | err a b c =>
  obtain ⟨rfl,hT⟩:=he1;have hc:=hpc a b c rfl;have hc0:(c != 0)=true:=by simpa using hc
  have Hc:=zh hc;have HB:Hid (Below w.heap.size w w1):=zh ((Only.of_below (S:=fun b=>b=w.heap.size) Hb0.out).trans hT |>.below (fun k e=>by omega) (zr _));clear hc hT hpc;go_wp2_with fail
  exact bodyPost_ret (v:=.tuple #[.slice none 0 0,.int .i64 a,.int .i64 b,.int .i64 c]) (by simp [results,Tryz.results31,go_sem]) rfl ⟨⟨rfl,Hc.out⟩,HB.out⟩
 | ok xs =>
  obtain ⟨rfl,⟨u,hO,⟨cs,hR,hX⟩⟩,hT⟩:=he1;have x0:=hO.cell (i:=0) rfl;have HB:Hid (Below w.heap.size w w1):=zh ((Only.of_below (S:=fun b=>b=w.heap.size) Hb0.out).trans hT |>.below (fun k e=>by omega) (zr _));have HR:=zh (zeg hR (show w.heap.size≤_ by omega));have HX:=zh hX;clear hO hR hX hT hpc;go_wp2_with fail
  exact bodyPost_ret (v:=.tuple #[u,.int .i64 0,.int .i64 0,.int .i64 0]) (by simp [results,Tryz.results31,go_sem]) rfl ⟨⟨u,rfl,cs,HR.out,HX.out.weak fun b _ h=>by have:=h.1;omega⟩,HB.out⟩
def ExpE (w w' : World) (e : Ending) : ParX → Prop
  | .ok x => ∃ v, e = .returned (.tuple #[v, .int .i64 0, .int .i64 0, .int .i64 0]) ∧ ExN w.heap.size w' x v
  | .err a b c => e = .returned (.tuple #[.agg #[.int .u8 0, .int .i64 0, .string { data := #[] }, .slice none 0 0], .int .i64 a, .int .i64 b, .int .i64 c]) ∧ c ≠ 0
theorem zlo {W:World} {p gx m:Nat} {v:Value} {l:List Tok} (h:PSt W p v l 0 0) (hE:PEnv l) (hl:OwnV W gx 29 zeroE) (hne:gx≠p) (hg:gx < m) (hm:m≤W.heap.size) :
  Calls Tryz.prog 64 #[.pointer (some ⟨p,0,none⟩),.pointer (some ⟨gx,0,none⟩)] W (OpE l p v 0 (fun b=>b=p∨b=gx) W (ExBox m gx) (zbv l 0 0)):=by
 have HC:=zh (ze0 hE (l.length+1 - 0) 0 0 _ W (zr _) (zr _) (by omega) h);have hvl:=zln h.toks h.here hl (by decide);have Hl:=zh hl;have hglt:=hl.lt;rw [show zbI l (l.length+1 - 0) 0 0=zbv l 0 0 from rfl] at HC
 generalize zbv l 0 0=R at *
 clear h hE hl;go_enter Tryz.func64,Tryz.ntmps64
 go_wp2_with fail
 go_at_call 65;refine HC.out.mono ?_;intro e1 w1 he1;clear HC
 cases R with
 | err a c =>
  obtain ⟨he1,hT1⟩:=he1;unfold Bad at he1;subst he1;have HT1:=zh hT1;clear hT1;go_wp2_with fail
  exact ⟨rfl,rfl,HT1.out.mono fun _ _ e=>.inl e⟩
 | ok x j =>
  obtain ⟨u,rfl,⟨cs,rfl,hX⟩,hP,hT⟩:=he1;obtain ⟨op,n,name,args⟩:=x;obtain ⟨aa,cap,rfl⟩:=hX.form1;have hO:=hT.own Hl.out hne;have x0:=hO.cell (i:=0) rfl;have x1:=hO.cell (i:=1) rfl;have x2:=hO.cell (i:=2) rfl;have x3:=hO.cell (i:=3) rfl;have xf:=hO.free;have HO:=zh hO;have HX:=zh hX;have HP:=zh hP;have HT:=zh hT;clear hX hO hP hT;go_wp2_with fail
  have hW:=((((Turns.refl gx w1).set 0 (.int .u8 op)).set 1 (.int .i64 n)).set 2 (.string (bstr name))).set 3 (.slice aa args.length cap);exact bodyPost_ret (results_none rfl _ _ _) rfl ⟨rfl,⟨_,(((HO.out.set 0 _).set 1 _).set 2 _).set 3 _,(HX.out.only hW (fun b hb e=>by omega)).weak fun b _ h=>⟨by omega,by omega⟩⟩,HP.out.only hW (fun e=>hne e.symm) (fun b hb e=>hvl b hb e),((((HT.out.mono fun _ _ e=>.inl e).setCell (.inr (.inr rfl)) _).setCell (.inr (.inr rfl)) _).setCell (.inr (.inr rfl)) _).setCell (.inr (.inr rfl)) _⟩
theorem zia (args:Array Value) (W:World):(callFunc 64 args).run Tryz.prog W=.ok (.enter 64 args) W:=(enters_of (P:=Tryz.prog) Tryz.func64 (by kernel_rfl) rfl) args W
theorem zew {w:World} (hG:Glob w) (s:ByteArray) (hs:s.size≤9223372036854775807) :
  Calls Tryz.prog 34 #[.string s] w fun e w'=>ExpE w w' e (zbT s.data.toList)∧Below w.heap.size w w':=by
 obtain ⟨W0,hW0,hb0,hA0,hO0,hs0⟩:=opened w zeroE zeroE 29 29;have hmf:=zmf Tryz.prog
 have hlt:=hO0.lt
 have HC:=zh (zhd (hG.below hb0 hG.size) s hs 64 (w.heap.size+1) (fun b=>b=w.heap.size+1) (fun b e=>by omega) (ExBox (W0.heap.size+3) (w.heap.size+1)) (fun l=>zbv l 0 0)
  (fun W W' x hx ho=>by
   obtain ⟨cs,hO,hX⟩:=hx
   exact ⟨cs,ho.own hO (fun e=>by omega),hX.only ho (fun b hb e=>by have:=hb.1;omega)⟩)
  zia (fun l p v W hlx hb hp hP=>zlo hP (zfQ hlx) (hO0.below hb (zr _)) (by omega) (by omega) (by have:=hP.lt;omega)))
 have hpc:∀ a b c,zbT s.data.toList=.err a b c→c≠0:=fun a b c h=>ziW h
 rw [zmt] at hpc ⊢
 generalize (zdp s.data.toList fun l=>zbv l 0 0)=R at *
 have HW0:=zh hW0;have Hb0:=zh hb0;have HA0:=zh hA0;simp only [zeroE] at HW0;clear hW0 hb0 hO0 hG hA0;go_enter Tryz.func34,Tryz.ntmps34
 go_upto_region 2 with (fail)
 rw [← HW0.out];go_wp2_with fail
 go_at_call 58;refine HC.out.mono ?_;intro e1 w1 he1;clear HC
 cases R with
 | err a b c =>
  obtain ⟨rfl,hT⟩:=he1;have hc:=hpc a b c rfl;have hc0:(c != 0)=true:=by simpa using hc
  have Hc:=zh hc;have HB:Hid (Below w.heap.size w w1):=zh ((Only.of_below (S:=fun b=>b=w.heap.size+1) Hb0.out).trans hT |>.below (fun k e=>by omega) (zr _));have hA:=hT.own HA0.out (by omega);have b0:=hA.cell (i:=0) rfl;have b1:=hA.cell (i:=1) rfl;have b2:=hA.cell (i:=2) rfl;have b3:=hA.cell (i:=3) rfl;have bf:=hA.free;clear hc hT hpc hA;go_wp2_with fail
  exact bodyPost_ret (v:=.tuple #[.agg #[.int .u8 0,.int .i64 0,.string { data:=#[] },.slice none 0 0],.int .i64 a,.int .i64 b,.int .i64 c]) (by simp [results,Tryz.results34,go_sem,b0,b1,b2,b3]) rfl ⟨⟨rfl,Hc.out⟩,(((HB.out.setCell (zr _) _).setCell (zr _) _).setCell (zr _) _).setCell (zr _) _⟩
 | ok x =>
  obtain ⟨rfl,⟨cs,hO,hX⟩,hT⟩:=he1;obtain ⟨op,n,name,args⟩:=x;obtain ⟨aa,cap,rfl⟩:=hX.form1;have x0:=hO.cell (i:=0) rfl;have x1:=hO.cell (i:=1) rfl;have x2:=hO.cell (i:=2) rfl;have x3:=hO.cell (i:=3) rfl;have HB:Hid (Below w.heap.size w w1):=zh ((Only.of_below (S:=fun b=>b=w.heap.size+1) Hb0.out).trans hT |>.below (fun k e=>by omega) (zr _));have hA:=hT.own HA0.out (by omega);have b0:=hA.cell (i:=0) rfl;have b1:=hA.cell (i:=1) rfl;have b2:=hA.cell (i:=2) rfl;have b3:=hA.cell (i:=3) rfl;have bf:=hA.free;have HX:=zh hX;clear hO hX hT hpc hA;go_wp2_with fail
  refine bodyPost_ret (v:=.tuple #[.agg #[.int .u8 op,.int .i64 n,.string (bstr name),.slice aa args.length cap],.int .i64 0,.int .i64 0,.int .i64 0]) (by simp [results,Tryz.results34,go_sem,b0,b1,b2,b3]) rfl ⟨⟨_,rfl,_,rfl,?_⟩,(((HB.out.setCell (zr _) _).setCell (zr _) _).setCell (zr _) _).setCell (zr _) _⟩;exact (HX.out.only (S:=fun b=>b=w.heap.size) (((((Turns.refl w.heap.size w1).set _ _).set _ _).set _ _).set _ _) (fun b hb e=>by have:=hb.1;omega)).weak fun b _ hb=>by have:=hb.1;omega
end Go.Proofs.YtoaojdobjinhfaaGreatDoor

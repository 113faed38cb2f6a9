/- Which trees can be written (P12.3), as functions. Plain mathematics. -/
import Derived.Test.YtoaojdobjinhfaaGreatDoorOnlyPz
import Derived.Test.YtoaojdobjinhfaaGreatDoorRParPPz
set_option linter.unusedSimpArgs false
set_option linter.unusedVariables false
set_option maxRecDepth 100000
set_option maxHeartbeats 1000000
namespace Go.Proofs.YtoaojdobjinhfaaGreatDoor
def zb9 (op : Int) : Nat := if op < 10 then (if op = 1 ∨ op = 2 ∨ op = 4 ∨ op = 5 then 0 else 1) else 2
def zbN (op n : Int) (name : List UInt8) (len : Nat) : Bool :=
  decide (1 <= op /\ op <= 24) && (decide (len = zb9 op) && ((if op = 2 then zaP name else decide (name = [])) && (if op = 1 then decide (0 <= n) else if op = 3 then decide (1 <= n /\ n <= 10) else decide (n = 0))))
def zbd : Nat -> Ex -> Bool
  | 0, _ => false
  | d + 1, .mk op n name args => zbN op n name args.length && args.all (zbd d)
def zfg (op : Int) : Nat := if op = 3 then 2 else if 5 < op then 0 else 1
def zbA (op n : Int) (name : List UInt8) (le lb ll : Nat) : Bool :=
  decide (1 <= op /\ op <= 7) && (decide (le = zfg op) && ((if op <= 2 then zaP name else decide (name = [])) && ((if op = 3 then decide (1 <= n /\ n <= 10) else decide (n = 0)) && (decide (lb = 0 ∨ op = 4 ∨ op = 5) && decide (ll = 0 ∨ op = 4)))))
def zaJ : Nat -> List St -> Bool
  | 0, l => l.isEmpty
  | d + 1, l => l.all fun s => match s with
    | .mk op n name es body els => (zaJ d body && zaJ d els) && (zbA op n name es.length body.length els.length && es.all (zbd 40))
def zh2 (d : Nat) : St -> Bool
  | .mk op n name es body els => (zaJ d body && zaJ d els) && (zbA op n name es.length body.length els.length && es.all (zbd 40))
theorem zfn(d:Nat)(l:List St):zaJ (d+1) l=l.all (zh2 d):=by
 rw[zaJ];try rfl
theorem zmW(n:Int)(name:List UInt8)(len:Nat):zbN 1 n name len=(decide (len=0)&&(decide (name=[])&&decide (0<=n))):=by simp[zbN,zb9]
theorem zmX(n:Int)(name:List UInt8)(len:Nat):zbN 2 n name len=(decide (len=0)&&(zaP name&&decide (n=0))):=by simp[zbN,zb9]
theorem zmY(n:Int)(name:List UInt8)(len:Nat):zbN 3 n name len=(decide (len=1)&&(decide (name=[])&&decide (1<=n/\n<=10))):=by simp[zbN,zb9]
theorem zmZ(n:Int)(name:List UInt8)(len:Nat):zbN 4 n name len=(decide (len=0)&&(decide (name=[])&&decide (n=0))):=by simp[zbN,zb9]
theorem zm0(n:Int)(name:List UInt8)(len:Nat):zbN 5 n name len=(decide (len=0)&&(decide (name=[])&&decide (n=0))):=by simp[zbN,zb9]
theorem zm1(op n:Int)(name:List UInt8)(len:Nat)(f:6<=op)(d:op<=9):zbN op n name len=(decide (len=1)&&(decide (name=[])&&decide (n=0))):=by
 unfold zbN zb9;rw[decide_eq_true (show 1<=op/\op<=24 by omega),yP (show op<10 by omega),yN (by omega),yN (by omega),yN (by omega),yN (by omega),Bool.true_and]
theorem zjA(op n:Int)(name:List UInt8)(len:Nat)(f:10<=op)(d:op<=24):zbN op n name len=(decide (len=2)&&(decide (name=[])&&decide (n=0))):=by
 unfold zbN zb9;rw[decide_eq_true (show 1<=op/\op<=24 by omega),yN (by omega),yN (by omega),yN (by omega),yN (by omega),Bool.true_and]
theorem headE_G(op n:Int)(name:List UInt8)(len:Nat)(h:¬(1<=op/\op<=24)):zbN op n name len=false:=by
 unfold zbN;rw[decide_eq_false h,Bool.false_and]
def zbH (op : Int) : Int := if 1 <= op /\ op <= 24 then (zb9 op : Int) else -1
theorem zl9:zaP []=false:=by decide +kernel
theorem zk2(op n:Int)(name:List UInt8)(len:Nat):zbN op n name len=(decide (zbH op=(len:Int))&&(((op==2)==decide (name≠[]))&&((decide (name=[])||zaP name)&&(if op=1 then decide (0<=n) else if op=3 then decide (1<=n/\n<=10) else decide (n=0))))):=by
 unfold zbN zbH;by_cases h:1<=op/\op<=24
 ·rw[decide_eq_true h,Bool.true_and,yP h]
  have e:decide ((zb9 op:Int)=(len:Int))=decide (len=zb9 op):=by
   rw[Bool.eq_iff_iff,yQ,yQ];omega
  rw[e];congr 1
  by_cases f:op=2
  ·have g:(op==2)=true:=by simp[f]
   rw[yP f,g];by_cases d:name=[]
   ·rw[d,zl9];simp
   ·simp[d]
  ·have g:(op==2)=false:=by simp[f]
   rw[yN f,g];by_cases d:name=[]
   ·simp[d]
   ·simp[d]
 ·rw[decide_eq_false h,Bool.false_and,yN h,decide_eq_false (by omega),Bool.false_and]
theorem all_take{α:Type}{p:α->Bool}{l:List α}{k:Nat}{x:α}(h:l[k]? = some x)(g:(l.take k).all p=true):(p x=true->(l.take (k+1)).all p=true)/\(p x=false->l.all p=false):=by
 obtain⟨d,rfl⟩:=List.getElem?_eq_some_iff.1 h;constructor
 ·intro hp;rw[List.take_succ_eq_append_getElem d,List.all_append,g];simp[hp]
 ·intro hp;rw[Bool.eq_false_iff];intro f;rw[List.all_eq_true] at f;rw[f _ (List.getElem_mem d)] at hp;cases hp
theorem zee(op n:Int)(name:List UInt8)(le lb d:Nat)(j:1<=op)(f:op<=2):zbA op n name le lb d=(decide (le=1)&&(zaP name&&(decide (n=0)&&(decide (lb=0)&&decide (d=0))))):=by
 unfold zbA zfg;rw[decide_eq_true (show 1<=op/\op<=7 by omega),yN (by omega),yN (by omega),yP f,yN (by omega),Bool.true_and];have i:decide (lb=0∨op=4∨op=5)=decide (lb=0):=by rw[Bool.eq_iff_iff,yQ,yQ];omega
 have g:decide (d=0∨op=4)=decide (d=0):=by rw[Bool.eq_iff_iff,yQ,yQ];omega
 rw[i,g]
theorem zfo(op n:Int)(name:List UInt8)(le lb d:Nat)(h:op=3):zbA op n name le lb d=(decide (le=2)&&(decide (name=[])&&(decide (1<=n/\n<=10)&&(decide (lb=0)&&decide (d=0))))):=by
 unfold zbA zfg;rw[decide_eq_true (show 1<=op/\op<=7 by omega),yP h,yN (by omega),yP h,Bool.true_and];have g:decide (lb=0∨op=4∨op=5)=decide (lb=0):=by rw[Bool.eq_iff_iff,yQ,yQ];omega
 have f:decide (d=0∨op=4)=decide (d=0):=by rw[Bool.eq_iff_iff,yQ,yQ];omega
 rw[g,f]
theorem zfp(op n:Int)(name:List UInt8)(le lb d:Nat)(h:op=4):zbA op n name le lb d=(decide (le=1)&&(decide (name=[])&&(decide (n=0)&&(true)))):=by
 unfold zbA zfg;rw[decide_eq_true (show 1<=op/\op<=7 by omega),yN (by omega),yN (by omega),yN (by omega),yN (by omega),Bool.true_and,decide_eq_true (show lb=0∨op=4∨op=5 from .inr (.inl h)),decide_eq_true (show d=0∨op=4 from .inr h)];rfl
theorem zfq(op n:Int)(name:List UInt8)(le lb d:Nat)(h:op=5):zbA op n name le lb d=(decide (le=1)&&(decide (name=[])&&(decide (n=0)&&(decide (d=0))))):=by
 unfold zbA zfg;have f:decide (d=0∨op=4)=decide (d=0):=by rw[Bool.eq_iff_iff,yQ,yQ];omega
 rw[decide_eq_true (show 1<=op/\op<=7 by omega),yN (by omega),yN (by omega),yN (by omega),yN (by omega),Bool.true_and,decide_eq_true (show lb=0∨op=4∨op=5 from .inr (.inr h)),f,Bool.true_and]
theorem zef(op n:Int)(name:List UInt8)(le lb d:Nat)(j:6<=op)(i:op<=7):zbA op n name le lb d=(decide (le=0)&&(decide (name=[])&&(decide (n=0)&&(decide (lb=0)&&decide (d=0))))):=by
 unfold zbA zfg;rw[decide_eq_true (show 1<=op/\op<=7 by omega),yN (by omega),yP (by omega),yN (by omega),yN (by omega),Bool.true_and];have g:decide (lb=0∨op=4∨op=5)=decide (lb=0):=by rw[Bool.eq_iff_iff,yQ,yQ];omega
 have f:decide (d=0∨op=4)=decide (d=0):=by rw[Bool.eq_iff_iff,yQ,yQ];omega
 rw[g,f]
theorem zk3(op n:Int)(name:List UInt8)(le lb d:Nat)(h:¬(1<=op/\op<=7)):zbA op n name le lb d=false:=by
 unfold zbA;rw[decide_eq_false h,Bool.false_and]
open Go.RowKit

theorem str_nil{l:List UInt8}:(bstr l).toList=[] ↔ l=[]:=by
 have:=zal l [];rw[Bool.eq_iff_iff,beq_iff_eq,yQ] at this;exact this
def zbe (q : Bool) (w : World) (e : Ending) (w' : World) : Prop := e = .returned (.bool q) /\ Below w.heap.size w w'

def CopyEs (xs : List Ex) (w : World) (e : Ending) (w' : World) : Prop := (∃ r cs, e = .returned r /\ w'.ownsRow w.heap.size 29 4 r xs.length cs /\ ExsC w' (fun g => w.heap.size <= g /\ r.ownBlock ≠ some g) xs cs) /\ Below w.heap.size w w'
def CopyE1 (x : Ex) (w : World) (e : Ending) (w' : World) : Prop := (∃ cs : List Value, e = .returned (.agg cs.toArray) /\ ExsC w' (fun g => w.heap.size <= g) [x] cs) /\ Below w.heap.size w w'
theorem EsV.set{w:World}{m:Nat}{xs:List Ex}{v:Value}(h:EsV w m xs v){b o:Nat}{x:Value}(d:b<m):EsV (w.setCell ⟨b,o,none⟩ x) m xs v:=h.grown (zaY _ _ _ _) d
theorem SsV.set{w:World}{m:Nat}{xs:List St}{v:Value}(h:SsV w m xs v){b o:Nat}{x:Value}(d:b<m):SsV (w.setCell ⟨b,o,none⟩ x) m xs v:=h.grown (zaY _ _ _ _) d
theorem EsV.one{w:World}{m B:Nat}{op n:Int}{name:List UInt8}{args:List Ex}{v:Value}(h:EsV w m args v)(f:B<=m):ExsC w (fun g=>B<=g) [.mk op n name args] [.int .u8 op,.int .i64 n,.string (bstr name),v]:=by
 obtain⟨cs,i,d,j⟩:=h;exact(ExsC.cons (P:=fun g=>m<=g) i d j .nil).weak fun g _ h=>yT f h
theorem copyE_any(op n:Int)(name:List UInt8)(args:List Ex)(v:Value)(w:World)(L:∃a cap,v=.slice a args.length cap)(H:∀w',Below w.heap.size w w'->Calls Tryz.prog 118 #[v] w' (CopyEs args w')) :
  Calls Tryz.prog 149 #[.agg #[.int .u8 op,.int .i64 n,.string (bstr name),v]] w (CopyE1 (.mk op n name args) w):=by
 obtain⟨a,cap,rfl⟩:=L;have M:=zh H;clear H;go_enter Tryz.func149,Tryz.ntmps149
 go_upto_region 1 with(fail)
 obtain⟨Q,m,y,q,u,D⟩:=zbD w [.int .u8 op,.int .i64 n,.string (bstr name),.slice a args.length cap] zeroE 29 29;simp only[zeroE] at m;rw[<-m];clear m;have g:=zh y;have A:=zh q;have z:=zh u;have I:=q.cell (i:=3) rfl;clear y q u;go_wp2_with fail
 refine(M.out _ g.out).mono ?_;rintro T O⟨⟨r,cs,rfl,hown,G⟩,d⟩;obtain⟨J,f,rfl,_,_⟩:=Sl.form (Sl.of_own hown);have F:=zh (A.out.below d (zr _));have B:=zh (z.out.below d (zr _));have C:=zh (g.out.trans (d.mono g.out.size));have E:Hid (EsV O (w.heap.size+2) args (.slice J args.length f)):=zh (EsV.of_own hown G.weak1 D);clear hown G d I A z;have l:=F.out;obtain⟨U,V,S,I⟩:=yc4 l;have R:=l.free;have j:=B.out;obtain⟨N,K,y2,y3⟩:=yc4 j;have P:=j.free;clear l j;go_wp2_with fail
 refine yE (v:=.agg #[.int .u8 op,.int .i64 n,.string (bstr name),.slice J args.length f]) (by simp[results,Tryz.results149,go_sem,N,K,y2,y3]) rfl ⟨⟨_,rfl,?_⟩,?_⟩
 ·exact(((((E.out.set (by omega)).set (by omega)).set (by omega)).set (by omega)).set (by omega)).one (by omega)
 ·exact((((C.out.setCell (zr _) _).setCell (by simp) _).setCell (by simp) _).setCell (by simp) _).setCell (by simp) _
theorem copyEs_any:∀(m:Nat) (xs:List Ex) (v:Value) (w:World) (B:Nat),szEs xs<m->szEs xs<=1000000->EsL w B xs v->B<=w.heap.size ->
  Calls Tryz.prog 118 #[v] w (CopyEs xs w):=by
 intro m
 induction m with
 | zero=>intro xs v w B h;omega
 | succ m ih =>
  intro xs v w B Z V N M;obtain⟨a,cap,rfl,af,ag⟩:=N.form;have HL:=zh N;have Hm:=zh Z;have S:=zh ih;have Y:xs.length<=1000000:=yT (zoh xs) V;clear Z N ih;go_enter Tryz.func118,Tryz.ntmps118
  go_wp2_with fail
  go_loopw [3,4,5,6,7,8,9,10,11,12,13,14,15,16,17,18,19,20] (fun t3 t4 _ _ _ _ _ _ _ _ _ _ _ _ _ _ _ _ wr=>∃(k:Nat) (cs:List Value),k<=xs.length/\t4=.int .i64 k/\wr.ownsRow w.heap.size 29 4 t3 k cs/\Hid (ExsC wr (fun g=>w.heap.size<=g/\t3.ownBlock≠some g) (xs.take k) cs)/\Hid (Below w.heap.size w wr)) (fun _ t4 _ _ _ _ _ _ _ _ _ _ _ _ _ _ _ _ _=>xs.length-(intOf t4).toNat)
  case atStart=>exact⟨0,[],by omega,by first|rfl|go_num,World.ownsRow_nil _ _ _ _,zh .nil,zh (yR _ _)⟩
  case round =>
   obtain⟨k,cs,hk,rfl,hown,P,K⟩:=hrel;have d:=K.out.size;by_cases A:k<xs.length
   ·have R:(k:Int)<(xs.length:Int):=by omega
    have ah:(xs.length:Int)<=1000000:=by omega
    have I:EsL wr B xs (.slice a xs.length cap):=HL.out.low (K.out.mono M);obtain⟨b,ab,F,n2,i,f,aa,ac,rfl,ai,ae,u,c0,c1,c2,c3,J⟩:=I.at A;have hz:=zlL u;have HI:=zh (copyE_any F n2 i f _ wr ⟨aa,ac,rfl⟩ (fun w' hb=>S.out f _ w' B (by have:=Hm.out;omega) (by omega) (J.low (hb.mono (yT M d))) (yT M (yT d hb.size))))
    have G:Hid (xs.take (k+1)=xs.take k++[.mk F n2 i f]):=zh (by
     obtain⟨h1,h2⟩:=List.getElem?_eq_some_iff.1 u
     rw[List.take_succ_eq_append_getElem A,h2])
    clear I u J hz;go_wp2_with fail
    refine HI.out.mono ?_;rintro e2 w2⟨⟨cx,rfl,l⟩,j⟩;obtain⟨op,n,name,args,Q,T,X,rfl⟩:=l.one;rw[X] at G l;have q:=zh l;have O:=zh j;have L:w.heap.size<=w2.heap.size:=yT d j.size;have z:=(zbu hown j (zr _)).alloc (.cells #[.int .u8 op,.int .i64 n,.string (bstr name),.slice Q args.length T] 29);have H:=zh ((K.out.trans (j.mono d)).alloc L (.cells #[.int .u8 op,.int .i64 n,.string (bstr name),.slice Q args.length T] 29));clear l j X;go_wp2_with (at_builtin;refine zbj rfl (.tmp 17) (.tmp 19) 27 rfl z zbx Tryz.underlying27 rfl (by decide) rfl 1 1 (by show Value.slice (some ⟨w2.heap.size+1,0,none⟩) 1 1=_;simp) rfl rfl (by unfold maxLen;omega) (by omega) H.out.size ?_;intro v' w3 y U W C)
    go_roundw
    case rel=>exact⟨k+1,cs++[.int .u8 op,.int .i64 n,.string (bstr name),.slice Q args.length T],by omega,by go_num,y,zh (by rw[G.out];exact zfV hown P.out O.out q.out d ((yR _ _).alloc (zr _) _) U C),zh (H.out.trans W)⟩
    case measure=>simp[intOf];omega
   ·have R:¬(k:Int)<(xs.length:Int):=by omega
    have D:k=xs.length:=by omega
    have E:Hid (wr.ownsRow w.heap.size 29 4 u3 xs.length cs):=zh (by rw[<-D];exact hown);have q:Hid (ExsC wr (fun g=>w.heap.size<=g/\u3.ownBlock≠some g) xs cs):=zh (by have:=P.out;rw[D,List.take_length] at this;exact this);clear hown P;go_wp2_with fail
    go_ret;exact⟨⟨_,cs,rfl,E.out,q.out⟩,K.out⟩
def CopySs (xs : List St) (w : World) (e : Ending) (w' : World) : Prop := (∃ r cs, e = .returned r /\ w'.ownsRow w.heap.size 56 6 r xs.length cs /\ StsC w' (fun g => w.heap.size <= g /\ r.ownBlock ≠ some g) xs cs) /\ Below w.heap.size w w'
def CopyS1 (x : St) (w : World) (e : Ending) (w' : World) : Prop := (∃ cs : List Value, e = .returned (.agg cs.toArray) /\ StsC w' (fun g => w.heap.size <= g) [x] cs) /\ Below w.heap.size w w'
theorem StsC.weak1{w:World}{P Q:Nat->Prop}{xs:List St}{cs:List Value}(h:StsC w (fun g=>P g/\Q g) xs cs):StsC w P xs cs:=h.weak fun _ _ h=>h.1
theorem stc_mk{w:World}{m B:Nat}{op n:Int}{name:List UInt8}{es:List Ex}{body els:List St}{d vb f:Value}(q:EsV w m es d)(j:SsV w m body vb)(l:SsV w m els f)(u:B<=m):StsC w (fun g=>B<=g) [.mk op n name es body els] [.int .u8 op,.int .i64 n,.string (bstr name),d,vb,f]:=by
 obtain⟨cs,h,i⟩:=zc6 (op:=op) (n:=n) (name:=name) q j l u
 have e:cs=[.int .u8 op,.int .i64 n,.string (bstr name),d,vb,f]:=by
  have:=congrArg (fun v=>match v with | .agg a=>a.toList|_=>[]) h;simpa using this.symm
 rw[e] at i;exact i
theorem copyS_any(op n:Int)(name:List UInt8)(es:List Ex)(body els:List St)(ve vb vl:Value)(w:World)(av:∃a cap,ve=.slice a es.length cap)(ax:∃a cap,vb=.slice a body.length cap)(ay:∃a cap,vl=.slice a els.length cap)
  (hC:∀w',Below w.heap.size w w'->Calls Tryz.prog 118 #[ve] w' (CopyEs es w')) (hD:∀w',Below w.heap.size w w'->Calls Tryz.prog 42 #[vb] w' (CopySs body w')) (hE:∀w',Below w.heap.size w w'->Calls Tryz.prog 42 #[vl] w' (CopySs els w')) :
  Calls Tryz.prog 73 #[.agg #[.int .u8 op,.int .i64 n,.string (bstr name),ve,vb,vl]] w (CopyS1 (.mk op n name es body els) w):=by
 obtain⟨ae,pe,rfl⟩:=av;obtain⟨ab,pb,rfl⟩:=ax;obtain⟨al,pl,rfl⟩:=ay;have HC:=zh hC;have HD:=zh hD;have HE:=zh hE;clear hC hD hE;go_enter Tryz.func73,Tryz.ntmps73
 go_upto_region 1 with(fail)
 obtain⟨W0,I,Y,H,af,an⟩:=zbD w [.int .u8 op,.int .i64 n,.string (bstr name),.slice ae es.length pe,.slice ab body.length pb,.slice al els.length pl] zbh 56 56;simp only[zbh] at I;rw[<-I];clear I;have C:=zh Y;have aa:=zh H;have am:=zh af;have x3:=H.cell (i:=3) rfl;clear Y H af;go_wp2_with fail
 refine(HC.out _ C.out).mono ?_;rintro e1 w1⟨⟨r1,aD,rfl,d,Q⟩,u⟩;obtain⟨a1,c1,rfl,_,_⟩:=Sl.form (Sl.of_own d);have q:=zh (aa.out.below u (zr _));have ap:=zh (am.out.below u (zr _));have ak:=zh (C.out.trans (u.mono C.out.size));have ao:Hid (EsV w1 (w.heap.size+2) es (.slice a1 es.length c1)):=zh (EsV.of_own d Q.weak1 an);have T:=yT an u.size;clear d Q u x3 aa am C;have x3:=q.out.cell (i:=3) rfl;have N:=q.out.cell (i:=4) rfl;have xf:=q.out.free;go_upto_region 2 with(fail)
 obtain⟨W1,D,O,K⟩:=set1 q.out 3 (.slice a1 es.length c1);rw[<-D];have L:=zh O;have aj:=zh (ap.out.grown K (by simp));have z:Hid (Below w.heap.size w W1):=zh (by rw[D];exact ak.out.setCell (zr _) _);have U:=zh (ao.out.grown K (by omega));have F:w.heap.size+2<=W1.heap.size:=by rw[D];simpa using T
 clear D O K x3 N xf q ap ak ao;have N:=L.out.cell (i:=4) rfl;go_wp2_with fail
 refine(HD.out _ z.out).mono ?_;rintro e2 w2⟨⟨r2,aE,rfl,g,W⟩,j⟩;obtain⟨a2,c2,rfl,_,_⟩:=Sl.form (Sl.of_own g);have y:=zh (L.out.below j (zr _));have X:=zh (aj.out.below j (zr _));have R:=zh (z.out.trans (j.mono z.out.size));have ag:=zh (U.out.below j);have V:Hid (SsV w2 (w.heap.size+2) body (.slice a2 body.length c2)):=zh (SsV.of_own g W.weak1 F);have Z:=yT F j.size;clear g W j N L aj z U;have N:=y.out.cell (i:=4) rfl;have x5:=y.out.cell (i:=5) rfl;have xf:=y.out.free;go_upto_region 3 with(fail)
 obtain⟨W2,B,ah,A⟩:=set1 y.out 4 (.slice a2 body.length c2);rw[<-B];have J:=zh ah;have P:=zh (X.out.grown A (by simp));have E:Hid (Below w.heap.size w W2):=zh (by rw[B];exact R.out.setCell (zr _) _);have ad:=zh (ag.out.grown A (by omega));have ai:=zh (V.out.grown A (by omega));have S:w.heap.size+2<=W2.heap.size:=by rw[B];simpa using Z
 clear B ah A N x5 xf y X R ag V;have x5:=J.out.cell (i:=5) rfl;go_wp2_with fail
 refine(HE.out _ E.out).mono ?_;rintro e3 w3⟨⟨r3,aC,rfl,f,ac⟩,l⟩;obtain⟨a3,c3,rfl,_,_⟩:=Sl.form (Sl.of_own f);have au:=zh (J.out.below l (zr _));have aq:=zh (P.out.below l (zr _));have az:=zh (E.out.trans (l.mono E.out.size));have aA:=zh (ad.out.below l);have ar:=zh (ai.out.below l);have aw:Hid (SsV w3 (w.heap.size+2) els (.slice a3 els.length c3)):=zh (SsV.of_own f ac.weak1 S);clear f ac l x5 J P E ad ai;have M:=au.out;obtain⟨x0,x1,x2,x3,N,x5⟩:=yc6 M;have xf:=M.free;have G:=aq.out;obtain⟨y0,y1,y2,y3,y4,y5⟩:=yc6 G;have yf:=G.free;clear M G;go_wp2_with fail
 refine yE (v:=.agg #[.int .u8 op,.int .i64 n,.string (bstr name),.slice a1 es.length c1,.slice a2 body.length c2,.slice a3 els.length c3]) (by simp[results,Tryz.results73,go_sem,y0,y1,y2,y3,y4,y5]) rfl ⟨⟨_,rfl,?_⟩,?_⟩
 ·exact stc_mk (m:=w.heap.size+2) (((((((aA.out.set (by omega)).set (by omega)).set (by omega)).set (by omega)).set (by omega)).set (by omega)).set (by omega)) (((((((ar.out.set (by omega)).set (by omega)).set (by omega)).set (by omega)).set (by omega)).set (by omega)).set (by omega)) (((((((aw.out.set (by omega)).set (by omega)).set (by omega)).set (by omega)).set (by omega)).set (by omega)).set (by omega)) (by omega)
 ·exact((((((az.out.setCell (zr _) _).setCell (by simp) _).setCell (by simp) _).setCell (by simp) _).setCell (by simp) _).setCell (by simp) _).setCell (by simp) _
theorem copySs_any:∀(m:Nat) (xs:List St) (v:Value) (w:World) (B:Nat),szSs xs<m->szSs xs<=1000000->SsL w B xs v->B<=w.heap.size ->
  Calls Tryz.prog 42 #[v] w (CopySs xs w):=by
 intro m
 induction m with
 | zero=>intro xs v w B h;omega
 | succ m ih =>
  intro xs v w B hm aa R l;obtain⟨a,cap,rfl,ah,ai⟩:=R.form;have HL:=zh R;have Hm:=zh hm;have I:=zh ih;have ad:xs.length<=1000000:=yT (zs7 xs) aa;clear hm R ih;go_enter Tryz.func42,Tryz.ntmps42
  go_wp2_with fail
  go_loopw [3,4,5,6,7,8,9,10,11,12,13,14,15,16,17,18,19,20] (fun t3 t4 _ _ _ _ _ _ _ _ _ _ _ _ _ _ _ _ wr=>∃(k:Nat) (cs:List Value),k<=xs.length/\t4=.int .i64 k/\wr.ownsRow w.heap.size 56 6 t3 k cs/\Hid (StsC wr (fun g=>w.heap.size<=g/\t3.ownBlock≠some g) (xs.take k) cs)/\Hid (Below w.heap.size w wr)) (fun _ t4 _ _ _ _ _ _ _ _ _ _ _ _ _ _ _ _ _=>xs.length-(intOf t4).toNat)
  case atStart=>exact⟨0,[],by omega,by first|rfl|go_num,World.ownsRow_nil _ _ _ _,zh .nil,zh (yR _ _)⟩
  case round =>
   obtain⟨k,cs,hk,rfl,hown,V,M⟩:=hrel;have d:=M.out.size;by_cases C:k<xs.length
   ·have W:(k:Int)<(xs.length:Int):=by omega
    have aj:(xs.length:Int)<=1000000:=by omega
    have K:SsL wr B xs (.slice a xs.length cap):=HL.out.low (M.out.mono l);obtain⟨b,af,G,n2,f,es,body,els,ae,ce,ab,cb,al,cl,rfl,ak,ag,u,c0,c1,c2,c3,c4,c5,hE,L,A⟩:=K.at C;obtain⟨S,U,X⟩:=szS_mk u
    have HI:=zh (copyS_any G n2 f es body els _ _ _ wr ⟨ae,ce,rfl⟩ ⟨ab,cb,rfl⟩ ⟨al,cl,rfl⟩
     (fun w' hb=>copyEs_any _ es _ w' B (Nat.lt_succ_self _) (by omega) (hE.low (hb.mono (yT l d))) (yT l (yT d hb.size)))
     (fun w' hb=>I.out body _ w' B (by have:=Hm.out;omega) (by omega) (L.low (hb.mono (yT l d))) (yT l (yT d hb.size)))
     (fun w' hb=>I.out els _ w' B (by have:=Hm.out;omega) (by omega) (A.low (hb.mono (yT l d))) (yT l (yT d hb.size))))
    have H:Hid (xs.take (k+1)=xs.take k++[.mk G n2 f es body els]):=zh (by
     obtain⟨h1,h2⟩:=List.getElem?_eq_some_iff.1 u
     rw[List.take_succ_eq_append_getElem C,h2])
    clear K u hE L A S U X;go_wp2_with fail
    refine HI.out.mono ?_;rintro e2 w2⟨⟨cx,rfl,j⟩,i⟩;obtain⟨op,n,name,es,body,els,Q,bb,bl,O,N,Y,hx,rfl⟩:=j.one;rw[hx] at H j;have q:=zh j;have T:=zh i;have P:w.heap.size<=w2.heap.size:=yT d i.size;have z:=(zbu hown i (zr _)).alloc (.cells #[.int .u8 op,.int .i64 n,.string (bstr name),.slice Q es.length O,.slice bb body.length N,.slice bl els.length Y] 56);have J:=zh ((M.out.trans (i.mono d)).alloc P (.cells #[.int .u8 op,.int .i64 n,.string (bstr name),.slice Q es.length O,.slice bb body.length N,.slice bl els.length Y] 56));clear j i hx;go_wp2_with (at_builtin;refine zbj rfl (.tmp 17) (.tmp 19) 24 rfl z zhj Tryz.underlying24 rfl (by decide) rfl 1 1 (by show Value.slice (some ⟨w2.heap.size+1,0,none⟩) 1 1=_;simp) rfl rfl (by unfold maxLen;omega) (by omega) J.out.size ?_;intro v' w3 y Z ac D)
    go_roundw
    case rel=>exact⟨k+1,cs++[.int .u8 op,.int .i64 n,.string (bstr name),.slice Q es.length O,.slice bb body.length N,.slice bl els.length Y],by omega,by go_num,y,zh (by rw[H.out];exact ziF hown V.out T.out q.out d ((yR _ _).alloc (zr _) _) Z D),zh (J.out.trans ac)⟩
    case measure=>simp[intOf];omega
   ·have W:¬(k:Int)<(xs.length:Int):=by omega
    have E:k=xs.length:=by omega
    have F:Hid (wr.ownsRow w.heap.size 56 6 u3 xs.length cs):=zh (by rw[<-E];exact hown);have q:Hid (StsC wr (fun g=>w.heap.size<=g/\u3.ownBlock≠some g) xs cs):=zh (by have:=V.out;rw[E,List.take_length] at this;exact this);clear hown V;go_wp2_with fail
    go_ret;exact⟨⟨_,cs,rfl,F.out,q.out⟩,M.out⟩
def YesE (w : World) (e : Ending) (w' : World) : Prop := e = .returned (.bool true) /\ Below w.heap.size w w'
theorem zeT(op n:Int)(name:List UInt8)(args:List Ex)(q vb:Value)(w:World)(y:∃a cap,q=.slice a args.length cap)(u:∃a cap,vb=.slice a args.length cap)(z:∀w',Below w.heap.size w w'->Calls Tryz.prog 66 #[q,vb] w' (YesE w')) :
  Calls Tryz.prog 35 #[.agg #[.int .u8 op,.int .i64 n,.string (bstr name),q],.agg #[.int .u8 op,.int .i64 n,.string (bstr name),vb]] w (YesE w):=by
 obtain⟨a,cap,rfl⟩:=y;obtain⟨b,g,rfl⟩:=u;have A:=zh z;clear z;go_enter Tryz.func35,Tryz.ntmps35
 go_upto_region 1 with(fail)
 obtain⟨D,l,i,m,f,B⟩:=zbD w [.int .u8 op,.int .i64 n,.string (bstr name),.slice a args.length cap] [.int .u8 op,.int .i64 n,.string (bstr name),.slice b args.length g] 29 29;rw[<-l];clear l;have d:=zh i;obtain⟨J,K,F,E⟩:=yc4 m;obtain⟨G,C,y2,y3⟩:=yc4 f;clear i m f;go_wp2_with fail
 refine(A.out _ d.out).mono ?_;rintro H I⟨rfl,j⟩;have v:=zh (d.out.trans (j.mono d.out.size));clear j;go_wp2_with fail
 go_ret;exact⟨rfl,v.out⟩
theorem zes:∀(m:Nat) (xs:List Ex) (F vb:Value) (w:World) (B:Nat),szEs xs<m->EsL w B xs F->EsL w B xs vb->B<=w.heap.size ->
  Calls Tryz.prog 66 #[F,vb] w (YesE w):=by
 intro m
 induction m with
 | zero=>intro xs F vb w B h;omega
 | succ m ih =>
  intro xs F vb w B V H hM u;obtain⟨a,cap,rfl,ad,ae⟩:=H.form;obtain⟨a',q,rfl,R,T⟩:=hM.form;have HL:=zh H;have Z:=zh hM;have Hm:=zh V;have M:=zh ih;clear V H hM ih;go_enter Tryz.func66,Tryz.ntmps66
  go_wp2_with fail
  go_loopw [4,5,11,12,13,14,15,16,17,18,19,20,21,22,23,24,25,26] (fun _ t5 _ _ _ _ _ _ _ _ _ _ _ _ _ _ _ _ wr=>∃(k:Nat),k<=xs.length/\t5=.int .i64 k/\Hid (Below w.heap.size w wr)) (fun _ t5 _ _ _ _ _ _ _ _ _ _ _ _ _ _ _ _ _=>xs.length-(intOf t5).toNat)
  case atStart=>exact⟨0,by omega,by first|rfl|go_num,zh (yR _ _)⟩
  case round =>
   obtain⟨k,hk,rfl,y⟩:=hrel;have d:=y.out.size;by_cases l:k<xs.length
   ·have K:(k:Int)<(xs.length:Int):=by omega
    have ag:(xs.length:Int)<=9223372036854775807:=by omega
    have A:EsL wr B xs (.slice a xs.length cap):=HL.out.low (y.out.mono u);have C:EsL wr B xs (.slice a' xs.length q):=Z.out.low (y.out.mono u);obtain⟨b,Y,L,n2,i,f,aa,W,rfl,ah,ab,j,c0,c1,c2,c3,D⟩:=A.at l;obtain⟨b',U,af,n3,G,P,I,O,rfl,S,Q,g,d0,d1,d2,d3,z⟩:=C.at l;rw[j] at g;cases g;have hz:=zlL j
    have X:Hid (∀N,Calls Tryz.prog 35 _ (wr.drewN N) (YesE (wr.drewN N))):=zh (fun N=>zeT L n2 i f _ _ (wr.drewN N) ⟨aa,W,rfl⟩ ⟨I,O,rfl⟩ (fun w' hb=>by
     have hb:Below wr.heap.size wr w':=Below.trans (b:=wr.drewN N) ⟨rfl,rfl,rfl,zr _,fun _ _=>rfl⟩ hb
     exact M.out f _ _ w' B (by have:=Hm.out;omega) (D.low (hb.mono (yT u d))) (z.low (hb.mono (yT u d))) (yT u (yT d hb.size))))
    clear A j D hz C z;go_wp2_with fail
    refine zaW 8 (DrewOf wr) (by kernel_rfl) (by kernel_rfl) (DrewOf.start _) ?_;simp only[List.take_succ_cons,List.take_zero,List.drop_succ_cons,List.drop_zero]
    repeat
     try simp only[Act.put,zs1,zs3,zs2]
     apply stepsSeq.cons
     ·rintro w'⟨E,rfl⟩;simp only[Act.put,zs1,zs3,zs2];go_wp2_with (fail)
      first|exact⟨rfl,E,rfl⟩|exact⟨rfl,E,(World.drewN_drewN _ _ _).symm⟩|exact⟨rfl,E,by simp⟩
    try simp only[Act.put,zs1,zs3,zs2]
    refine stepsSeq.nil ?_;rintro w'⟨E,rfl⟩;go_wp2_with fail
    refine(X.out _).mono ?_;rintro e2 w2⟨rfl,v⟩;have J:Hid (Below w.heap.size w w2):=zh ((Below.drewN y.out E).trans (v.mono d));clear v;go_wp2_with fail
    go_roundw
    case rel=>exact⟨k+1,by omega,by go_num,J⟩
    case measure=>simp[intOf];omega
   ·have K:¬(k:Int)<(xs.length:Int):=by omega
    go_wp2_with fail
    go_ret;exact⟨rfl,y.out⟩
theorem zlb(op n:Int)(name:List UInt8)(es:List Ex)(body els:List St)(D vb I G C F:Value)(w:World)(Y:∃a cap,D=.slice a es.length cap)(M:∃a cap,vb=.slice a body.length cap)(h3:∃a cap,I=.slice a els.length cap)(T:∃a cap,G=.slice a es.length cap)(h5:∃a cap,C=.slice a body.length cap)(O:∃a cap,F=.slice a els.length cap)
  (J:∀w',Below w.heap.size w w'->Calls Tryz.prog 66 #[D,G] w' (YesE w')) (K:∀w',Below w.heap.size w w'->Calls Tryz.prog 32 #[vb,C] w' (YesE w')) (L:∀w',Below w.heap.size w w'->Calls Tryz.prog 32 #[I,F] w' (YesE w')) :
  Calls Tryz.prog 61 #[.agg #[.int .u8 op,.int .i64 n,.string (bstr name),D,vb,I],.agg #[.int .u8 op,.int .i64 n,.string (bstr name),G,C,F]] w (YesE w):=by
 obtain⟨a1,V,rfl⟩:=Y;obtain⟨a2,S,rfl⟩:=M;obtain⟨W,p3,rfl⟩:=h3;obtain⟨X,N,rfl⟩:=T;obtain⟨a5,p5,rfl⟩:=h5;obtain⟨P,Q,rfl⟩:=O;have R:=zh J;have Z:=zh K;have U:=zh L;clear J K L;go_enter Tryz.func61,Tryz.ntmps61
 go_upto_region 1 with(fail)
 obtain⟨W0,A,u,q,g,aa⟩:=zbD w [.int .u8 op,.int .i64 n,.string (bstr name),.slice a1 es.length V,.slice a2 body.length S,.slice W els.length p3] [.int .u8 op,.int .i64 n,.string (bstr name),.slice X es.length N,.slice a5 body.length p5,.slice P els.length Q] 56 56;rw[<-A];clear A;have l:=zh u;have z:=zh q;have v:=zh g;obtain⟨x0,x1,x2,x3⟩:=yc4 q;obtain⟨y0,y1,y2,y3⟩:=yc4 g;clear u q g;go_wp2_with fail
 refine(R.out _ l.out).mono ?_;rintro e1 w1⟨rfl,d⟩;have x4:=(z.out.below d (zr _)).cell (i:=4) rfl;have y4:=(v.out.below d (zr _)).cell (i:=4) rfl;have m:=zh (l.out.trans (d.mono l.out.size));have H:=zh (z.out.below d (zr _));have E:=zh (v.out.below d (zr _));clear d;go_wp2_with fail
 refine(Z.out _ m.out).mono ?_;rintro e2 w2⟨rfl,f⟩;have x5:=(H.out.below f (zr _)).cell (i:=5) rfl;have y5:=(E.out.below f (zr _)).cell (i:=5) rfl;have j:=zh (m.out.trans (f.mono m.out.size));clear f;go_wp2_with fail
 refine(U.out _ j.out).mono ?_;rintro e3 w3⟨rfl,y⟩;have B:=zh (j.out.trans (y.mono j.out.size));clear y;go_wp2_with fail
 go_ret;exact⟨rfl,B.out⟩
theorem zjX:∀(m:Nat) (xs:List St) (J vb:Value) (w:World) (B:Nat),szSs xs<m->SsL w B xs J->SsL w B xs vb->B<=w.heap.size ->
  Calls Tryz.prog 32 #[J,vb] w (YesE w):=by
 intro m
 induction m with
 | zero=>intro xs J vb w B h;omega
 | succ m ih =>
  intro xs J vb w B hm L hM g;obtain⟨a,cap,rfl,ak,am⟩:=L.form;obtain⟨a',z,rfl,ad,ag⟩:=hM.form;have HL:=zh L;have HM:=zh hM;have Hm:=zh hm;have E:=zh ih;clear hm L hM ih;go_enter Tryz.func32,Tryz.ntmps32
  go_wp2_with fail
  go_loopw [4,5,11,12,13,14,15,16,17,18,19,20,21,22,23,24,25,26] (fun _ t5 _ _ _ _ _ _ _ _ _ _ _ _ _ _ _ _ wr=>∃(k:Nat),k<=xs.length/\t5=.int .i64 k/\Hid (Below w.heap.size w wr)) (fun _ t5 _ _ _ _ _ _ _ _ _ _ _ _ _ _ _ _ _=>xs.length-(intOf t5).toNat)
  case atStart=>exact⟨0,by omega,by first|rfl|go_num,zh (yR _ _)⟩
  case round =>
   obtain⟨k,hk,rfl,C⟩:=hrel;have d:=C.out.size;by_cases y:k<xs.length
   ·have U:(k:Int)<(xs.length:Int):=by omega
    have ao:(xs.length:Int)<=9223372036854775807:=by omega
    have F:SsL wr B xs (.slice a xs.length cap):=HL.out.low (C.out.mono g);have G:SsL wr B xs (.slice a' xs.length z):=HM.out.low (C.out.mono g);obtain⟨b,ai,X,n2,q,es,body,els,ae,ce,ab,cb,al,cl,rfl,ap,aj,u,c0,c1,c2,c3,c4,c5,hE,H,v⟩:=F.at y;obtain⟨b',ah,an,n3,K,aq,Y,aa,Q,O,V,R,T,Z,rfl,af,ac,l,d0,d1,d2,d3,d4,d5,D,j,i⟩:=G.at y;rw[u] at l;cases l;obtain⟨M,P,W⟩:=szS_mk u
    have HI:Hid (∀N,Calls Tryz.prog 61 _ (wr.drewN N) (YesE (wr.drewN N))):=zh (fun N=>by
     have f:∀{w'},Below (wr.drewN N).heap.size (wr.drewN N) w'->Below wr.heap.size wr w':=fun hb=>Below.trans (b:=wr.drewN N) ⟨rfl,rfl,rfl,zr _,fun _ _=>rfl⟩ hb
     exact zlb X n2 q es body els _ _ _ _ _ _ (wr.drewN N) ⟨ae,ce,rfl⟩ ⟨ab,cb,rfl⟩ ⟨al,cl,rfl⟩ ⟨Q,O,rfl⟩ ⟨V,R,rfl⟩ ⟨T,Z,rfl⟩
      (fun w' hb=>zes _ es _ _ w' B (Nat.lt_succ_self _) (hE.low ((f hb).mono (yT g d))) (D.low ((f hb).mono (yT g d))) (yT g (yT d (f hb).size)))
      (fun w' hb=>E.out body _ _ w' B (by have:=Hm.out;omega) (H.low ((f hb).mono (yT g d))) (j.low ((f hb).mono (yT g d))) (yT g (yT d (f hb).size)))
      (fun w' hb=>E.out els _ _ w' B (by have:=Hm.out;omega) (v.low ((f hb).mono (yT g d))) (i.low ((f hb).mono (yT g d))) (yT g (yT d (f hb).size))))
    clear F u hE H v D j i M P W G;go_wp2_with fail
    refine zaW 8 (DrewOf wr) (by kernel_rfl) (by kernel_rfl) (DrewOf.start _) ?_;simp only[List.take_succ_cons,List.take_zero,List.drop_succ_cons,List.drop_zero]
    repeat
     try simp only[Act.put,zs1,zs3,zs2]
     apply stepsSeq.cons
     ·rintro w'⟨I,rfl⟩;simp only[Act.put,zs1,zs3,zs2];go_wp2_with (fail)
      first|exact⟨rfl,I,rfl⟩|exact⟨rfl,I,(World.drewN_drewN _ _ _).symm⟩|exact⟨rfl,I,by simp⟩
    try simp only[Act.put,zs1,zs3,zs2]
    refine stepsSeq.nil ?_;rintro w'⟨I,rfl⟩;go_wp2_with fail
    refine(HI.out _).mono ?_;rintro e2 w2⟨rfl,A⟩;have S:Hid (Below w.heap.size w w2):=zh ((Below.drewN C.out I).trans (A.mono d));clear A;go_wp2_with fail
    go_roundw
    case rel=>exact⟨k+1,by omega,by go_num,S⟩
    case measure=>simp[intOf];omega
   ·have U:¬(k:Int)<(xs.length:Int):=by omega
    go_wp2_with fail
    go_ret;exact⟨rfl,C.out⟩
end Go.Proofs.YtoaojdobjinhfaaGreatDoor

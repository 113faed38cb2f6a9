/- The tokens of a source are an environment of the parser. Plain mathematics. -/
import Derived.Test.YtoaojdobjinhfaaGreatDoorPLexPz
import Derived.Test.YtoaojdobjinhfaaGreatDoorPaEPz
import Derived.Test.YtoaojdobjinhfaaGreatDoorQRightPz
import Derived.Test.YtoaojdobjinhfaaGreatDoorRParRPz
import Derived.Recover
import Derived.Defers
import Derived.RegionTactic
set_option linter.unusedSimpArgs false
set_option linter.unusedVariables false
set_option maxRecDepth 100000
set_option maxHeartbeats 4000000
namespace Go.Proofs.YtoaojdobjinhfaaGreatDoor
theorem zgu:∀x∈signWords,∀b r,x=b::r->zaH b=false/\zaG b=false:=by
 intro x d b r e;simp only[signWords,List.mem_cons,List.mem_nil_iff,or_false] at d;rcases d with rfl|rfl|rfl|rfl|rfl|rfl|rfl|rfl|rfl|rfl|rfl|rfl|rfl <;>(cases e;decide)
theorem zhc{d:List UInt8}{l:List Tok}(h:lexS d=.ok l):∃us l' c',l=us++[endT l' c']/\∀t∈us,TokOk t:=by
 rw[zcO] at h;split at h
 ·cases h
 ·exact zga _ _ (zr _) _ _ _ h
theorem zfQ{m:List UInt8}{l:List Tok}(h:lexS m=.ok l):PEnv l:=by
 refine⟨ziD h,ziK h,?_⟩;intro i g ht;obtain⟨d,q,j,rfl,u⟩:=zhc h;rcases Nat.lt_or_ge i d.length with hi|hi
 ·have e:zaa (d++[endT q j]) i=d[i]:=by
   unfold zaa;rw[List.getD_eq_getElem?_getD,List.getElem?_append_left hi,yD hi];rfl
  rw[e] at g ht ⊢;have f:=u _ (List.getElem_mem hi)
  generalize d[i]=t at *
  cases f with
  | word h1 _ _=>have:=(zgu _ ht _ _ rfl).1;rw[h1] at this;cases this
  | number _ h1 _ _=>have:=(zgu _ ht _ _ rfl).2;rw[h1] at this;cases this
  | sign _ _ _=>rfl
 ·exfalso;apply g;unfold zaa;rw[List.getD_eq_getElem?_getD,List.getElem?_append_right hi]
  cases i-d.length with
  | zero=>rfl
  | succ n=>rfl
open Go.RowKit

theorem zni(p q r:Value)(w:World) :
  CallsD Tryz.prog 88 #[p,q,r] .returning w fun e u' w'=>e=.returned (.tuple #[])/\u'=.returning/\w'=w:=by
 refine callsD_of_wpS Tryz.func88 rfl fun c₀ cs hu=>?_
 apply wpS_seq;apply wpS_region;simp[wpOpsS,go_sem,recoverD,hu,Tryz.ntmps88,Exit.thenS];apply wpS_seq;apply wpS_region;simp[wpOpsS,go_sem,Exit.thenS];refine wpS_cond (t:=false) (by simp[Act.eval,Array.replicate]) ?_;simp only[Bool.false_eq_true,if_false];refine wpS_of_wp (wp_skip ?_);cases c₀;simp_all[bodyPostS,results,Tryz.results88]
theorem ze6{w:World}{f g b2:Nat}{x y z:Int}(m:OwnV w f 3 [.int .i64 x])(l:OwnV w g 3 [.int .i64 y])(j:OwnV w b2 35 [.int .i64 z])(n1:f≠g)(n2:f≠b2)(n3:g≠b2)(a b c:Int)(d:List PanicEntry) :
  CallsD Tryz.prog 88 #[.pointer (some ⟨f,0,none⟩),.pointer (some ⟨g,0,none⟩),.pointer (some ⟨b2,0,none⟩)] (.panicking ({ v:=.iface 113 (.agg #[.int .i64 a,.int .i64 b,.int .i64 c]),recovered:=false } :: d)) w fun e u' w' =>
   e=.returned (.tuple #[])/\u'=.panicking ({ v:=.iface 113 (.agg #[.int .i64 a,.int .i64 b,.int .i64 c]),recovered:=true } :: d)/\OwnV w' f 3 [.int .i64 a]/\OwnV w' g 3 [.int .i64 b]/\OwnV w' b2 35 [.int .i64 c]/\Only (fun k=>k=f∨k=g∨k=b2) w w':=by
 have q:∀(v:Value) (u:World),(Instr.typeAssert (.iface 113 v) 20 113 true).run Tryz.prog u=.ok (.tuple #[v,.bool true]) u:=by
  intro v u;unfold Instr.typeAssert;simp[go_sem,Tryz.underlying113]
 refine callsD_of_wpS Tryz.func88 rfl fun c₀ cs hu=>?_
 apply wpS_seq;apply wpS_region;simp[wpOpsS,go_sem,recoverD,hu,Tryz.ntmps88,Exit.thenS];apply wpS_seq;apply wpS_region;simp[wpOpsS,go_sem,Exit.thenS];refine wpS_cond (t:=true) (by simp[Act.eval,Array.replicate]) ?_;simp only[if_true];apply wpS_seq;apply wpS_region;simp[wpOpsS,go_sem,Exit.thenS,q];apply wpS_seq;apply wpS_seq;apply wpS_region;simp[wpOpsS,go_sem,Exit.thenS];refine wpS_cond (t:=false) (by simp[Act.eval,Array.replicate]) ?_;simp only[Bool.false_eq_true,if_false];refine wpS_of_wp (wp_skip ?_);simp only[Exit.thenS];refine wpS_of_wp ?_;have B:=m.cell (i:=0) rfl;have F:=l.cell (i:=0) rfl;have C:=j.cell (i:=0) rfl;have G:=m.free;have E:=l.free;have D:=j.free;have A:=m.lt;have l1:=l.lt;have l2:=j.lt;go_region
 all_goals
  simp only[bodyPostS];refine⟨by first|rfl|trivial,_,by first|rfl|trivial,.tuple #[],results_none rfl _ _ _,by first|rfl|trivial,by first|rfl|trivial,?_⟩;exact⟨OwnV.drew ((((m.set 0 _).set_ne n1 _).set_ne n2 _).alloc _),OwnV.drew ((((l.set_ne (fun e=>n1 e.symm) _).set 0 _).set_ne n3 _).alloc _),OwnV.drew ((((j.set_ne (fun e=>n2 e.symm) _).set_ne (fun e=>n3 e.symm) _).set 0 _).alloc _),(((((Only.refl _ w).setCell (.inr (.inl rfl)) _).setCell (.inr (.inr (.inl rfl))) _).setCell (.inr (.inr (.inr rfl))) _).alloc _).drew⟩
inductive RR (α : Type) where
  | ok (x : α)
  | err (line col code : Int)
def zeD {α : Type} (l : List Tok) : PR α -> RR α
  | .err i c => .err (zaa l i).line (zaa l i).col c
  | .ok x j => if (zaa l j).kind = 4 then .ok x else .err (zaa l j).line (zaa l j).col 120
theorem ze7{α:Type}{l:List Tok}{x:α}{j:Nat}(h:(zaa l j).kind=4):zeD l (.ok x j)=.ok x:=by
 show(if(zaa l j).kind=4 then RR.ok x else .err (zaa l j).line (zaa l j).col 120)=_;rw[yP h]
theorem zfR{α:Type}{l:List Tok}{x:α}{j:Nat}(h:(zaa l j).kind≠4):zeD l (.ok x j)=.err (zaa l j).line (zaa l j).col 120:=by
 show(if(zaa l j).kind=4 then RR.ok x else .err (zaa l j).line (zaa l j).col 120)=_;rw[yN h]
def zko {α : Type} (R : List Tok -> PR α) : LexR -> RR α
  | .err a b c => .err a b c
  | .ok l => zeD l (R l)
def zdp {α : Type} (bs : List UInt8) (R : List Tok -> PR α) : RR α := zko R (lexS bs)
def ReadE {α : Type} (S : Nat -> Prop) (w : World) (X : World -> α -> Prop) (r : RR α) (e : Ending) (w' : World) : Prop :=
  match r with
  | .ok x => e = .returned (.tuple #[.int .i64 0, .int .i64 0, .int .i64 0]) /\ X w' x /\ Only S w w'
  | .err a b c => e = .returned (.tuple #[.int .i64 a, .int .i64 b, .int .i64 c]) /\ Only S w w'
theorem znj(w:World)(X Y Z:List Value)(g f d:TypeId):∃W0,W0=((w.alloc (.cells X.toArray g)).alloc (.cells Y.toArray f)).alloc (.cells Z.toArray d)/\Below w.heap.size w W0/\OwnV W0 w.heap.size g X/\OwnV W0 (w.heap.size+1) f Y/\OwnV W0 (w.heap.size+1+1) d Z/\W0.heap.size=w.heap.size+3:=
 ⟨_,rfl,(((yR _ _).alloc (zr _) _).alloc (by simp) _).alloc (by simp;omega) _,((OwnV.new _ _ _).alloc _).alloc _,(za6 _ _ _ (by simp)).alloc _,za6 _ _ _ (by simp),by simp⟩
theorem znk{d:List UInt8}{l:List Tok}(h:lexS d=.ok l):0<l.length:=by
 obtain⟨f,a,b,rfl,-⟩:=zhc h;simp
theorem zeE{w:World}{b g d:Nat}{e:TypeId}{n k:Int}(h:OwnV w g e [.int .i64 n])(f:w.cell? ⟨b,d,none⟩=some (.int .u8 k)):b≠g:=by
 rintro rfl;unfold OwnV at h;simp[World.cell?,h] at f;cases d <;> simp_all
theorem zhd{α:Type}{w:World}(hG:Glob w)(s:ByteArray)(hs:s.size<=9223372036854775807)(k gl:Nat)(S:Nat->Prop)(hS:∀b,S b->b<w.heap.size)(X:World->α->Prop)(R:List Tok->PR α)
  (hX:∀W W' x,X W x->Only (fun b=>w.heap.size<=b/\b<w.heap.size+3) W W'->X W' x)
  (hk:∀args W,(callFunc k args).run Tryz.prog W=.ok (.enter k args) W)
  (hF:∀l p v W,lexS s.data.toList=.ok l->Below w.heap.size w W->w.heap.size+3<=p->PSt W p v l 0 0->Calls Tryz.prog k #[.pointer (some ⟨p,0,none⟩),.pointer (some ⟨gl,0,none⟩)] W (OpE l p v 0 (fun b=>b=p∨S b) W X (R l))) :
  Calls Tryz.prog 58 #[.string s,.func (.func k) #[] #[.pointer (some ⟨gl,0,none⟩)]] w (ReadE S w X (zdp s.data.toList R)):=by
 obtain⟨W0,aH,am,aD,aP,au,be⟩:=znj w [.int .i64 0] [.int .i64 0] [.int .i64 0] 3 3 35;have ba:=zmf Tryz.prog
 have aS:=hG.size;have HL:=zh (zm6 s W0 hs (hG.below am aS));have aQ:=zh aH;have ag:=zh am;have aN:=zh aD;have ax:=zh aP;have av:=zh au;have HF:=zh hF;have an:∀a b e,lexS s.data.toList=.err a b e->e≠0:=fun a b e h=>zd9 h
 have aq:∀l,lexS s.data.toList=.ok l->PEnv l/\0<l.length:=fun l h=>⟨zfQ h,znk h⟩
 unfold zdp;clear aH am aD aP au hF hG
 generalize lexS s.data.toList=LR at *
 cases LR with
 | err a b c =>
  have hc:¬c=0:=an a b c rfl;have a8:(c != 0)=true:=by simpa using hc
  clear an aq HF hc;unfold zko;go_enter_defers Tryz.func58,Tryz.ntmps58
  go_upto_region 1 with(fail)
  rw[<-aQ.out];go_wp2_with fail
  go_at_call 36;refine HL.out.mono ?_;rintro e1 w1⟨rfl,m⟩;have y:=aN.out.below m (zr _);have z:=ax.out.below m (zr _);have A:=av.out.below m (zr _);have a0:=y.cell (i:=0) rfl;have b0:=z.cell (i:=0) rfl;have c0:=A.cell (i:=0) rfl;have af:=y.free;have bf:=z.free;have cf:=A.free;have ar:=zh (ag.out.trans (m.mono ag.out.size))
  obtain⟨u,H,I,F,B,N⟩:∃u,u=((w1.setCell ⟨w.heap.size,0,none⟩ (.int .i64 a)).setCell ⟨w.heap.size+1,0,none⟩ (.int .i64 b)).setCell ⟨w.heap.size+1+1,0,none⟩ (.int .i64 c)/\OwnV u w.heap.size 3 [.int .i64 a]/\OwnV u (w.heap.size+1) 3 [.int .i64 b]/\OwnV u (w.heap.size+1+1) 35 [.int .i64 c]/\Only S w u:=
   ⟨_,rfl,((y.set 0 _).set_ne (by omega) _).set_ne (by omega) _,((z.set_ne (by omega) _).set 0 _).set_ne (by omega) _,((A.set_ne (by omega) _).set_ne (by omega) _).set 0 _,(((Only.of_below ar.out).setNew (zr _) _).setNew (by omega) _).setNew (by omega) _⟩
  have ao:=zh H;have ac:=zh I;have ab:=zh F;have aa:=zh B;have aZ:=zh N;clear m y z A H I F B N;go_upto_region 2 with(fail)
  rw[<-ao.out];clear a0 b0 c0 af bf cf;have a0:=ac.out.cell (i:=0) rfl;have b0:=ab.out.cell (i:=0) rfl;have c0:=aa.out.cell (i:=0) rfl;have af:=ac.out.free;have bf:=ab.out.free;have cf:=aa.out.free;go_upto_region 3 with(fail)
  go_region
  obtain⟨G,P,aG,aA,aF,aI⟩:∃G,G=(((u.setCell ⟨w.heap.size,0,none⟩ (.int .i64 a)).setCell ⟨w.heap.size+1,0,none⟩ (.int .i64 b)).setCell ⟨w.heap.size+1+1,0,none⟩ (.int .i64 c)).drew/\OwnV G w.heap.size 3 [.int .i64 a]/\OwnV G (w.heap.size+1) 3 [.int .i64 b]/\OwnV G (w.heap.size+1+1) 35 [.int .i64 c]/\Only S w G:=
   ⟨_,rfl,OwnV.drew (((ac.out.set 0 _).set_ne (by omega) _).set_ne (by omega) _),OwnV.drew (((ab.out.set_ne (by omega) _).set 0 _).set_ne (by omega) _),OwnV.drew (((aa.out.set_ne (by omega) _).set_ne (by omega) _).set 0 _),(((aZ.out.setNew (zr _) _).setNew (by omega) _).setNew (by omega) _).drew⟩
  rw[<-P];have y0:=aG.cell (i:=0) rfl;have y1:=aA.cell (i:=0) rfl;have y2:=aF.cell (i:=0) rfl;have aU:=zh aI;clear P aG aA aF aI a0 b0 c0 af bf cf;go_wp2_with fail
  exact⟨.tuple #[.int .i64 a,.int .i64 b,.int .i64 c],by simp[results,Tryz.results58,go_sem,y0,y1,y2],rfl,aU.out⟩
 | ok l =>
  obtain⟨hE,aK⟩:=aq l rfl;have HE:=zh hE;clear an aq hE;unfold zko;go_enter_defers Tryz.func58,Tryz.ntmps58
  go_upto_region 1 with(fail)
  rw[<-aQ.out];go_wp2_with fail
  go_at_call 36;refine HL.out.mono ?_;rintro e1 w1⟨⟨r,rfl,V⟩,m⟩;obtain⟨ra,C,rfl,-,-⟩:=Sl.form V;have bc:=m.size;have y:=aN.out.below m (zr _);have z:=ax.out.below m (zr _);have A:=av.out.below m (zr _);have a0:=y.cell (i:=0) rfl;have b0:=z.cell (i:=0) rfl;have c0:=A.cell (i:=0) rfl;have af:=y.free;have bf:=z.free;have cf:=A.free;have ar:=zh (ag.out.trans (m.mono ag.out.size))
  have ap:∀b,(Value.slice ra l.length C).ownBlock=some b->(b≠w.heap.size/\b≠w.heap.size+1/\b≠w.heap.size+1+1)/\b<w1.heap.size:=by
   intro b e;obtain⟨b',a9,aW,t0,-⟩:=zaF V aK;subst aW;cases e;exact⟨⟨zeE y t0,zeE z t0,zeE A t0⟩,World.block_lt_of_cell? _ _ t0⟩
  obtain⟨u,H,I,F,B,N,M⟩:∃u,u=((w1.setCell ⟨w.heap.size,0,none⟩ (.int .i64 0)).setCell ⟨w.heap.size+1,0,none⟩ (.int .i64 0)).setCell ⟨w.heap.size+1+1,0,none⟩ (.int .i64 0)/\OwnV u w.heap.size 3 [.int .i64 0]/\OwnV u (w.heap.size+1) 3 [.int .i64 0]/\OwnV u (w.heap.size+1+1) 35 [.int .i64 0]/\Toks u l (.slice ra l.length C)/\Below w.heap.size w u:=
   ⟨_,rfl,((y.set 0 _).set_ne (by omega) _).set_ne (by omega) _,((z.set_ne (by omega) _).set 0 _).set_ne (by omega) _,((A.set_ne (by omega) _).set_ne (by omega) _).set 0 _,
    Only.sl (S:=fun b=>b=w.heap.size∨b=w.heap.size+1∨b=w.heap.size+1+1) ((((Only.refl _ w1).setCell (.inr (.inl rfl)) _).setCell (.inr (.inr (.inl rfl))) _).setCell (.inr (.inr (.inr rfl))) _) V (.inr fun g e h=>by have:=(ap g e).1;omega),
    (((ar.out).setCell (zr _) _).setCell (by show w.heap.size<=w.heap.size+1;omega) _).setCell (by show w.heap.size<=w.heap.size+1+1;omega) _⟩
  have ao:=zh H;have ac:=zh I;have ab:=zh F;have aa:=zh B;have aV:=B.lt;have a7:w1.heap.size<=u.heap.size:=by rw[H];simp
  obtain⟨G,P,E,ak⟩:∃G,G=u.alloc (.cells #[.slice ra l.length C,.int .i64 0,.int .i64 0] 116)/\Below u.heap.size u G/\OwnV G u.heap.size 116 [.slice ra l.length C,.int .i64 0,.int .i64 0]:=⟨_,rfl,(yR _ _).alloc (zr _) _,OwnV.new _ _ _⟩;have aE:PSt G u.heap.size (.slice ra l.length C) l 0 0:=⟨ak,Sl.below (by omega) N E (zr _),fun g e=>by have:=(ap g e).2;omega,aK⟩;have HC:=zh (HF.out l u.heap.size _ G rfl (M.trans (E.mono M.size)) (by omega) aE);have aM:=zh (I.below E (zr _));have aJ:=zh (F.below E (zr _));have ay:=zh (B.below E (zr _));have aO:=zh (M.trans (E.mono M.size));have aY:=zh P;have c2:=B.cell (i:=0) rfl;have bd:=ak.lt;have bg:w.heap.size+3<=u.heap.size:=by omega
  generalize hrl:R l=RL at *
  clear m y z A H I F B N M P E ak aE V hrl HF HL aV ap;go_upto_region 2 with(fail)
  rw[<-ao.out];clear a0 b0 c0 af bf cf;go_upto_region 6 with(fail)
  rw[<-aY.out];go_wp2_with fail
  refine HC.out.mono ?_;intro e4 w4 J;clear HC c2;have f0:=zgk
  cases RL with
  | err i c =>
   obtain⟨J,d⟩:=J;unfold Bad at J;subst J;have a4:=d.size;have ad:=zh (d.own aM.out (fun e=>by rcases e with e|e;omega;have:=hS _ e;omega));have Y:=zh (d.own aJ.out (fun e=>by rcases e with e|e;omega;have:=hS _ e;omega));have U:=zh (d.own ay.out (fun e=>by rcases e with e|e;omega;have:=hS _ e;omega));have ae:Hid (Only S w w4):=zh ((Only.of_below aO.out).transNew d (fun b e=>e.elim (fun e=>.inr (by omega)) .inl));clear d;go_wp2_with fail
   refine leaves_cons (f:=88) (args:=#[.pointer (some ⟨w.heap.size,0,none⟩),.pointer (some ⟨w.heap.size+1,0,none⟩),.pointer (some ⟨w.heap.size+1+1,0,none⟩)]) (by simp) (by simp[go_sem]) ?_;refine(ze6 ad.out Y.out U.out (by omega) (by omega) (by omega) _ _ _ []).mono ?_;rintro e9 u9 w9⟨rfl,rfl,L,Q,K,aj⟩;have y0:=L.cell (i:=0) rfl;have y1:=Q.cell (i:=0) rfl;have y2:=K.cell (i:=0) rfl;have hT:Only S w w9:=ae.out.transNew aj (fun b e=>.inr (by rcases e with e|e|e <;> omega));clear L Q K;simp only[settle,List.dropWhile_nil,Leaves];refine⟨.tuple #[.int .i64 (zaa l i).line,.int .i64 (zaa l i).col,.int .i64 c],by simp[results,Tryz.results58,go_sem,y0,y1,y2],?_⟩
   exact⟨rfl,hT⟩
  | ok x j =>
   obtain⟨rfl,aw,ai,d⟩:=J;have a4:=d.size;have ad:=zh (d.own aM.out (fun e=>by rcases e with e|e;omega;have:=hS _ e;omega));have Y:=zh (d.own aJ.out (fun e=>by rcases e with e|e;omega;have:=hS _ e;omega));have U:=zh (d.own ay.out (fun e=>by rcases e with e|e;omega;have:=hS _ e;omega));have ae:Hid (Only S w w4):=zh ((Only.of_below aO.out).transNew d (fun b e=>e.elim (fun e=>.inr (by omega)) .inl));have aL:=zh aw;have HN:=zh (zaQ ai HE.out);have a5:Hid (∀w',Below w4.heap.size w4 w'->_):=zh (fun(w':World) (hb:Below w4.heap.size w4 w')=>zcl (ai.below hb) HE.out 120);obtain⟨q,hq⟩:∃q,((zaa l j).kind != 4)=q:=⟨_,rfl⟩;have az:Hid ((q=true->zeD l (.ok x j)=.err (zaa l j).line (zaa l j).col 120)/\(q=false->zeD l (.ok x j)=.ok x)):=zh ⟨fun e=>zfR (by rw[e] at hq;simpa using hq),fun e=>ze7 (by rw[e] at hq;simpa using hq)⟩;clear aw ai d;go_wp2_with fail
   go_at_call 89;refine HN.out.mono ?_;rintro e5 w5⟨rfl,D⟩;have ah:=zh (ad.out.below D (zr _));have Z:=zh (Y.out.below D (zr _));have T:=zh (U.out.below D (zr _));have aR:Hid (Only S w w5):=zh (ae.out.trans (Only.of_below D));have a3:=zh (hX _ _ _ aL.out (Only.of_below D));have aX:=zh D;have bb:=D.size;clear D HN ad Y U ae aL
   cases q with
   | true =>
    go_wp2_with fail
    go_at_call 90;refine(a5.out _ aX.out).mono ?_;rintro e6 w6⟨aC,O⟩;unfold Bad at aC;subst aC;have a2:=zh (ah.out.below O (zr _));have a1:=zh (Z.out.below O (zr _));have aT:=zh (T.out.below O (zr _));have a6:Hid (Only S w w6):=zh (aR.out.trans (Only.of_below O));clear O;go_wp2_with fail
    refine leaves_cons (f:=88) (args:=#[.pointer (some ⟨w.heap.size,0,none⟩),.pointer (some ⟨w.heap.size+1,0,none⟩),.pointer (some ⟨w.heap.size+1+1,0,none⟩)]) (by simp) (by simp[go_sem]) ?_;refine(ze6 a2.out a1.out aT.out (by omega) (by omega) (by omega) _ _ _ []).mono ?_;rintro e9 u9 w9⟨rfl,rfl,L,Q,K,aj⟩;have y0:=L.cell (i:=0) rfl;have y1:=Q.cell (i:=0) rfl;have y2:=K.cell (i:=0) rfl;have hT:Only S w w9:=a6.out.transNew aj (fun b e=>.inr (by rcases e with e|e|e <;> omega));clear L Q K;simp only[settle,List.dropWhile_nil,Leaves];refine⟨.tuple #[.int .i64 (zaa l j).line,.int .i64 (zaa l j).col,.int .i64 120],by simp[results,Tryz.results58,go_sem,y0,y1,y2],?_⟩;rw[az.out.1 trivial]
    exact⟨rfl,hT⟩
   | false =>
    have a0:=ah.out.cell (i:=0) rfl;have b0:=Z.out.cell (i:=0) rfl;have c0:=T.out.cell (i:=0) rfl;have af:=ah.out.free;have bf:=Z.out.free;have cf:=T.out.free;go_wp2_with fail
    have hW:Only (fun b=>w.heap.size<=b/\b<w.heap.size+3) w5 (((w5.setCell ⟨w.heap.size,0,none⟩ (.int .i64 0)).setCell ⟨w.heap.size+1,0,none⟩ (.int .i64 0)).setCell ⟨w.heap.size+1+1,0,none⟩ (.int .i64 0)):=
     (((Only.refl _ w5).setCell (.inr ⟨by show w.heap.size<=w.heap.size;omega,by show w.heap.size<w.heap.size+3;omega⟩) _).setCell (.inr ⟨by show w.heap.size<=w.heap.size+1;omega,by show w.heap.size+1<w.heap.size+3;omega⟩) _).setCell (.inr ⟨by show w.heap.size<=w.heap.size+1+1;omega,by show w.heap.size+1+1<w.heap.size+3;omega⟩) _
    have y0:=(((ah.out.set 0 (.int .i64 0)).set_ne (b:=w.heap.size+1) (o:=0) (by omega) (.int .i64 0)).set_ne (b:=w.heap.size+1+1) (o:=0) (by omega) (.int .i64 0)).cell (i:=0) rfl;have y1:=(((Z.out.set_ne (b:=w.heap.size) (o:=0) (by omega) (.int .i64 0)).set 0 (.int .i64 0)).set_ne (b:=w.heap.size+1+1) (o:=0) (by omega) (.int .i64 0)).cell (i:=0) rfl;have y2:=(((T.out.set_ne (b:=w.heap.size) (o:=0) (by omega) (.int .i64 0)).set_ne (b:=w.heap.size+1) (o:=0) (by omega) (.int .i64 0)).set 0 (.int .i64 0)).cell (i:=0) rfl;refine leaves_cons (f:=88) (args:=#[.pointer (some ⟨w.heap.size,0,none⟩),.pointer (some ⟨w.heap.size+1,0,none⟩),.pointer (some ⟨w.heap.size+1+1,0,none⟩)]) (by simp) (by simp[go_sem]) ?_;refine(zni _ _ _ _).mono ?_;rintro e9 u9 w9⟨rfl,rfl,rfl⟩;simp only[settle,Leaves];refine⟨.tuple #[.int .i64 0,.int .i64 0,.int .i64 0],by simp[results,Tryz.results58,go_sem,y0,y1,y2],?_⟩;rw[az.out.2 trivial];exact⟨rfl,hX _ _ _ a3.out hW,aR.out.transNew hW (fun b e=>.inr e.1)⟩
end Go.Proofs.YtoaojdobjinhfaaGreatDoor

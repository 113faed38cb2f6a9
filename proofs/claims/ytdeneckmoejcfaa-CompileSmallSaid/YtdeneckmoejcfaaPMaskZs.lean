/- The program's Masks, walked, with the iterator that it ranges over. For codes of at most a million instructions. -/
import Derived.Test.YtdeneckmoejcfaaTransMZs
import Derived.Shelf.Abstract
import Derived.Shelf.RegionOpen
import Derived.LoopN
set_option linter.unusedSimpArgs false
set_option linter.unusedVariables false
set_option maxRecDepth 100000
set_option maxHeartbeats 4000000
namespace Go.Proofs.Ytdeneckmoejcfaa
open Go.RowKit Go.Shelf
attribute [local go_sem] Oper.semAt_some

def got (op : Int) (i : InsS) : Option (Fin 32) := if h : i.op = op /\ 1 <= i.a /\ i.a <= 31 then some ⟨i.a.toNat, by omega⟩ else none
def gets (op : Int) (c : znA) : List (Fin 32) := c.filterMap (got op)
def znY (x : BitVec 32) (l : List (Fin 32)) : BitVec 32 := l.foldl (fun m k => m ||| zoB k.val) x
theorem or0 (x:BitVec 32):(0:BitVec 32) ||| x=x:=by simp
theorem zsF (l:List (Fin 32)):∀ x,znY x l=x ||| znY 0#32 l:=by
 induction l with
 | nil=>intro x;simp [znY]
 | cons k l ih =>
  intro x;show znY (x ||| zoB k.val) l=x ||| znY (0 ||| zoB k.val) l;rw [ih (x ||| zoB k.val),ih (0 ||| zoB k.val),or0,BitVec.or_assoc]
theorem zp3 (op:Int) (c:znA):znY 0#32 (gets op c)=znW op c:=by
 induction c with
 | nil=>rfl
 | cons i c ih =>
  show znY 0#32 (List.filterMap (got op) (i :: c))=zqy op i ||| znW op c;rw [List.filterMap_cons];by_cases h:i.op=op/\1<=i.a/\i.a<=31
  ·have e:got op i=some ⟨i.a.toNat,by omega⟩:=dif_pos h;rw [e];show znY (0 ||| zoB i.a.toNat) (gets op c)=_;rw [zsF,ih];unfold zqy;rw [yP h,or0]
  ·have e:got op i=none:=dif_neg h;rw [e];show znY 0#32 (gets op c)=_;rw [ih];unfold zqy;rw [yN h,or0]
theorem zp4 (x:BitVec 32) (l:List (Fin 32)) (k:Fin 32):znY x (l++[k])=znY x l ||| zoB k.val:=by simp [znY]
theorem zrY {op:Int} {c:znA} {k:Nat} (hk:k < c.length):gets op (c.take (k+1))=gets op (c.take k)++(match got op c[k] with | some x=>[x] | none=>[]):=by
 unfold gets;rw [List.take_succ_eq_append_getElem hk,List.filterMap_append];congr 1
 simp only [List.filterMap_cons,List.filterMap_nil];cases got op c[k] <;> rfl
theorem zsG (op:Int) (c:znA) (k:Nat):gets op (c.take k) <+: gets op c:=by
 conv=>rhs;rw [<- List.take_append_drop k c]
 unfold gets;rw [List.filterMap_append];exact List.prefix_append _ _
def KeepsBut (b : Nat) (W W' : World) : Prop := W.heap.size <= W'.heap.size /\ ∀ (k : Nat) (o : Obj), k ≠ b -> W.heap[k]? = some o -> o.isCells = true -> W'.heap[k]? = some o
theorem KeepsBut.trans {b:Nat} {A B C:World} (h:KeepsBut b A B) (k:KeepsBut b B C):KeepsBut b A C:=⟨yT h.1 k.1,fun i o hb hi ho=>k.2 i o hb (h.2 i o hb hi ho) ho⟩
theorem KeepsBut.put (b:Nat) (W:World) (l:Nat) (o o':Obj) (h:W.heap[l]? = some o) (hc:o.isCells=false):KeepsBut b W (W.putObj l o'):=by
 have hg:=grownBy_putObj' W l o';refine ⟨hg.size,fun k u _ hk hu=>?_⟩;rw [hg.block k (lt_of_block hk) (fun e=>by cases e;rw [h] at hk;cases hk;rw [hc] at hu;cases hu)];exact hk
theorem KeepsBut.only {b:Nat} {W W':World} (h:Only (fun g=>g=b) W W'):KeepsBut b W W':=⟨h.size,fun k o hb hk _=>(h.block k (lt_of_block hk) hb).trans hk⟩
theorem KeepsBut.alloc (b:Nat) (W:World) (o:Obj):KeepsBut b W (W.alloc o):=KeepsBut.only ((Only.refl _ _).alloc o)
theorem OwnV.keepsBut {b:Nat} {W W':World} {g:Nat} {e:TypeId} {vs:List Value} (h:OwnV W g e vs) (hk:KeepsBut b W W') (hg:g≠b):OwnV W' g e vs:=hk.2 _ _ hg h rfl
theorem zqr {W:World} {a:Addr} {v:Value} (h:W.cell? a=some v):∃ o,W.heap[a.block]? = some o/\o.isCells=true:=by
 unfold World.cell? at h;split at h
 ·rename_i cs t fz hh
  exact ⟨_,hh,rfl⟩
 ·cases h
theorem SlC.keepsBut {b:Nat} {W W':World} {c:znA} {a:Option Addr} {m cap:Nat} (h:SlC W c (.slice a m cap)) (hk:KeepsBut b W W') (hb:c.length=0∨∀ g,(Value.slice a m cap).ownBlock=some g->g≠b):SlC W' c (.slice a m cap):=by
 obtain ⟨a',cap',e,h2,h3,h4,h5⟩:=h;cases e;refine ⟨a,cap,rfl,h2,h3,h4,fun hn=>?_⟩;obtain ⟨g,off,rfl,hc⟩:=h5 hn;refine ⟨g,off,rfl,fun j hj=>?_⟩;have h1:(znH c)[j]? = some ((znH c)[j]'(by rw [h4];exact hj)):=yD _;have h0:=(hc j hj).trans h1;obtain ⟨o,ho,hco⟩:=zqr h0;rw [h1,<- h0]
 have hgb:g≠b:=by
  rcases hb with hb | hb
  ·have:=h4;rw [zpx] at this;omega
  ·exact hb g rfl
 exact World.cell?_of_block (w:=W) ((hk.2 g o hgb ho hco).trans ho.symm)
theorem zqH (v:Value) (op:Int) (w:World) (hv:∃ a m cap,v=.slice a m cap) :
  Calls Try.prog 52 #[v,.int .u8 op] w fun e w'=>e=.returned (.func (.func 67) #[] #[.pointer (some ⟨w.heap.size,0,none⟩),.pointer (some ⟨w.heap.size+1,0,none⟩)])/\w'=(w.alloc (.cells #[v] 26)).alloc (.cells #[.int .u8 op] 5):=by
 obtain ⟨a,m,cap,rfl⟩:=hv;go_enter Try.func52,Try.ntmps52
 go_wp2;go_ret;exact ⟨rfl,rfl⟩
def WithP (ys : List (Fin 32)) (J Jx : List (Fin 32) -> World -> Prop) (e : Ending) (W' : World) : Prop := (∃ v, e = .returned v) /\ ((∃ zs, zs = ys /\ J zs W') ∨ (∃ pre, pre <+: ys /\ Jx pre W'))
theorem zsH (l b1 b2 lb:Nat) (op:Int) (c:znA) (a:Option Addr) (cap:Nat) (hl:c.length<=1000000) (hlb:c.length=0∨∀ g,(Value.slice a c.length cap).ownBlock=some g->g≠lb) (hb1:b1≠lb) (hb2:b2≠lb) (J Jx:List (Fin 32)->World->Prop) (W:World) (hJ:Stays W.heap.size J)
  (hY:∀ pre x W1,J pre W1->YieldAt Fence.wide 4 Try.prog l #[.int .i64 (x.val:Nat)] W1 fun e W' =>
   (e=.returned (.bool true)/\J (pre++[x]) W'/\KeepsBut lb W1 W')∨(e=.returned (.bool false)/\Jx (pre++[x]) W'))
  (hC:SlC W c (.slice a c.length cap)) (hB1:OwnV W b1 26 [.slice a c.length cap]) (hB2:OwnV W b2 5 [.int .u8 op]) (h0:J [] W) :
  CallsIn Fence.wide 5 Try.prog 67 #[.func (.yield l) #[] #[],.pointer (some ⟨b1,0,none⟩),.pointer (some ⟨b2,0,none⟩)] W (WithP (gets op c) J Jx):=by
 have HJ:=zh hJ;have HC:=zh hC;have HB1:=zh hB1;have HB2:=zh hB2;have H0:=zh h0;have Hlb:=zh hlb;have HW:Hid (∃ Wz:World,Wz=W):=zh ⟨_,rfl⟩;have x1:=hB1.cell (i:=0) rfl;have x2:=hB2.cell (i:=0) rfl;clear hJ hC hB1 hB2 h0 hlb;refine callsIn_of_wp Try.func67 rfl trivial ?_ rfl;simp only [Try.ntmps67,List.size_toArray,yB,yL,Nat.reduceAdd,Nat.reduceSub,Array.replicate_succ,Array.replicate_zero,List.push_toArray,List.append_toArray,List.nil_append,List.cons_append];gi_wp2
 gi_loopw [5,8,9,10,11,12,13,14,15,16,17,18,19,20,21,22,23,24,25,26,27,28,29,30,31,32,33] (fun _ t8 _ _ _ _ _ _ _ _ _ _ _ _ _ _ _ _ _ _ _ _ _ _ _ _ _ wr=>∃ i:Nat,i<=c.length/\t8=.int .i64 i/\Hid (J (gets op (c.take i)) wr)/\Hid (SlC wr c (.slice a c.length cap))/\Hid (OwnV wr b1 26 [.slice a c.length cap])/\Hid (OwnV wr b2 5 [.int .u8 op])/\Hid (W.heap.size<=wr.heap.size)) (fun _ t8 _ _ _ _ _ _ _ _ _ _ _ _ _ _ _ _ _ _ _ _ _ _ _ _ _ _=>c.length - (intOf t8).toNat)
 case atStart=>exact ⟨0,by omega,rfl,zh H0.out,zh HC.out,zh HB1.out,zh HB2.out,zh (zr _)⟩
 case round =>
  obtain ⟨i,hi,rfl,HJi,HCi,HB1i,HB2i,Hsz⟩:=hrel;by_cases hlt:i < c.length
  ·have hii:(i:Int) < (c.length:Int):=by omega
   obtain ⟨g,off,rfl,hgw,c0,c1⟩:=HCi.out.at hlt;have Htk:=zh (zrY (op:=op) hlt);have Hgot:Hid (∀ z,c[i]=z->got op z=got op c[i]):=zh (fun z h=>by rw [h]);obtain ⟨zo,za,hz⟩:∃ zo za,c[i]=⟨zo,za⟩:=⟨_,_,rfl⟩;rw [hz] at c0 c1 Htk;have x2:=HB2i.out.cell (i:=0) rfl;obtain ⟨W2,hW2,hX2,hb2'⟩:∃ W2,W2=wr.alloc (.cells #[.int .u8 zo,.int .i64 za] 35)/\OwnV W2 wr.heap.size 35 [.int .u8 zo,.int .i64 za]/\Below wr.heap.size wr W2:=⟨_,rfl,OwnV.new _ _ _,(yR _ _).alloc (zr _) _⟩;have hJ2:J (gets op (c.take i)) W2:=by rw [hW2];exact HJ.out _ _ _ none HJi.out (World.grownBy_alloc wr _ none) (fun r e=>by cases e)
   have HJ2:=zh hJ2;have HC2:=zh (HCi.out.below hb2');have HB12:=zh (HB1i.out.below hb2' (zr _));have HB22:=zh (HB2i.out.below hb2' (zr _));have hs2:=hb2'.size;have Hs2:Hid (W.heap.size<=W2.heap.size):=zh (yT Hsz.out hs2);obtain ⟨y0,y1⟩:=yc2 hX2;have y2:=HB22.out.cell (i:=0) rfl;have HW2:=zh hW2;obtain ⟨p,hp⟩:∃ p:Bool,(zo == op)=p:=⟨_,rfl⟩;obtain ⟨q,hq⟩:∃ q:Bool,decide (1<=za)=q:=⟨_,rfl⟩;obtain ⟨r,hr⟩:∃ r:Bool,decide (za<=31)=r:=⟨_,rfl⟩;have Hp:Hid (p=true ↔ zo=op):=zh (by rw [<- hp,beq_iff_eq]);have Hq:Hid (q=true ↔ 1<=za):=zh (by rw [<- hq,yQ]);have Hr:Hid (r=true ↔ za<=31):=zh (by rw [<- hr,yQ])
   have Hno:Hid (¬ (p=true/\q=true/\r=true)->gets op (c.take (i+1))=gets op (c.take i)):=zh (fun h=>by
    rw [Htk.out,show got op ⟨zo,za⟩=none from dif_neg (fun e=>h ⟨Hp.out.2 e.1,Hq.out.2 e.2.1,Hr.out.2 e.2.2⟩)]
    exact List.append_nil _)
   clear hJ2 hX2 hb2' HW2 HJi HCi HB1i HB2i;cases p <;> cases q <;> cases r
   case' true.true.true =>
    have hza:(1:Int)<=za/\za<=31:=⟨Hq.out.1 rfl,Hr.out.1 rfl⟩;obtain ⟨x,hx,hx2⟩:∃ x:Fin 32,got op ⟨zo,za⟩=some x/\(x.val:Int)=za:=⟨⟨za.toNat,by omega⟩,dif_pos ⟨Hp.out.1 rfl,hza.1,hza.2⟩,by show ((za.toNat:Nat):Int)=za;omega⟩;have Hg:Hid (gets op (c.take (i+1))=gets op (c.take i)++[x]):=zh (by rw [Htk.out,hx]);obtain ⟨fn,tmps,assign,body,hy,hR⟩:=hY _ x W2 HJ2.out;rw [<- Hg.out] at hR;have HR:=zh hR;subst hx2;clear hR hx hY;subst hW2;have HCk:=zh (fun W3 (hk:KeepsBut lb _ W3)=>HC2.out.keepsBut hk Hlb.out);have HBk:=zh (fun W3 (hk:KeepsBut lb _ W3)=>And.intro (HB12.out.keepsBut hk hb1) (HB22.out.keepsBut hk hb2));have Hpr:Hid (gets op (c.take (i+1)) <+: gets op c):=zh (zsG _ _ _);clear HC2 HB12 HB22 HJ2 Htk Hno Hg;gi_wp2
    refine HR.out.mono ?_;rintro e W3 (⟨rfl,hJ3,hk3⟩ | ⟨rfl,hJx3⟩)
    ·have HJ3:=zh hJ3;have HC3:=zh (HCk.out W3 hk3);have HB3:=zh (HBk.out W3 hk3);have Hs3:=zh (yT Hs2.out hk3.1);clear hJ3 hk3 HCk HBk y0 y1 y2 hy c0 c1;gi_wp2
     go_roundw
     case rel=>exact ⟨i+1,by omega,by go_num,HJ3,HC3,zh HB3.out.1,zh HB3.out.2,Hs3⟩
     case measure=>simp [intOf];omega
    ·gi_wp2
     refine yE (results_none rfl _ _ _) rfl ?_;exact ⟨⟨_,rfl⟩,.inr ⟨_,Hpr.out,hJx3⟩⟩
   all_goals
    have Hg:=zh (Hno.out (by decide));subst hW2;clear Hno Htk;gi_wp2
    refine ⟨fun _ h=>(by cases h),?_⟩;gi_wp2
    go_roundw
    case rel=>exact ⟨i+1,by omega,by go_num,zh (by rw [Hg.out];exact HJ2.out),HC2,HB12,HB22,Hs2⟩
    case measure=>simp [intOf];omega
  ·have hii:¬ (i:Int) < (c.length:Int):=by omega
   have hie:i=c.length:=by omega
   have HJe:Hid (J (gets op c) wr):=zh (by have:=HJi.out;rw [hie,List.take_length] at this;exact this);clear HJi hie;gi_wp2
   refine bodyPost_end (results_none rfl _ _ _) rfl ?_;exact ⟨⟨_,rfl⟩,.inl ⟨_,rfl,HJe.out⟩⟩
theorem zp5 (b1 b2 lb:Nat) (op:Int) (c:znA) (a:Option Addr) (cap:Nat) (hl:c.length<=1000000) (hlb:c.length=0∨∀ g,(Value.slice a c.length cap).ownBlock=some g->g≠lb) (hb1:b1≠lb) (hb2:b2≠lb) (w:World) (hC:SlC w c (.slice a c.length cap)) (hB1:OwnV w b1 26 [.slice a c.length cap]) (hB2:OwnV w b2 5 [.int .u8 op]) :
  zqG Try.prog 67 #[.pointer (some ⟨b1,0,none⟩),.pointer (some ⟨b2,0,none⟩)] (fun x:Fin 32=>#[Value.int .i64 (x.val:Nat)]) (KeepsBut lb) (fun ys=>ys=gets op c) (fun pre=>pre <+: gets op c) w:=
 fun l J Jx W hW hJ _ hY h0=>zsH l b1 b2 lb op c a cap hl hlb hb1 hb2 J Jx W hJ hY (hC.below hW) (hB1.below hW (zr _)) (hB2.below hW (zr _)) h0
def MkI (lb nb ob n0 : Nat) (nv : Int) (D : Option Nat) (X Y : List (Fin 32) -> Value) (w : World) (pre : List (Fin 32)) (W : World) : Prop :=
  OwnV W lb 93 [X pre, Y pre] /\ OwnV W nb 3 [.int .i64 nv] /\ OwnV W ob 5 [.int .u8 4, .int .u8 5] /\ (∀ d, D = some d -> W.heap[d]? = some (.deferred (some []))) /\ Below n0 w W /\ n0 <= W.heap.size
theorem zqj {lb nb ob n0:Nat} {nv:Int} {D:Option Nat} {X Y:List (Fin 32)->Value} {w:World} {B:Nat} (hD:∀ d,D=some d->d < B) (h1:lb < B) (h2:nb < B) (h3:ob < B) (h4:n0<=B):Stays B (MkI lb nb ob n0 nv D X Y w):=by
 intro s W W' row ⟨a1,a2,a3,a4,a5,a6⟩ hg hr;exact ⟨zn1 a1 hg hr h1,zn1 a2 hg hr h2,zn1 a3 hg hr h3,fun d e=>zn1 (a4 d e) hg hr (hD d e),a5.grown hg a6 (fun r e=>yT h4 (hr r e)),yT a6 hg.size⟩
theorem zpa (W:World) (lb k:Nat) (v:Value):Only (fun g=>g=lb) W ((W.setCell ⟨lb,k,none⟩ v).drew):=
 (Only.setIn (S:=fun g=>g=lb) (Only.refl _ W) (g:=lb) (o:=k) rfl v).drew
theorem zrq (c:znA) (v:Value) (w:World) (hC:SlC w c v) (hl:c.length<=1000000) :
  Calls Try.prog 35 #[v] w fun e w'=>e=.returned (.tuple #[.int .u32 (w32 (znW 4 c)),.int .u32 (w32 (znW 5 c))])/\Below w.heap.size w w':=by
 obtain ⟨a,cap,rfl,_,_⟩:=Sl.form hC;have HC:=zh hC
 have HownC:Hid (c.length=0∨∀ g,(Value.slice a c.length cap).ownBlock=some g->g < w.heap.size):=zh (by
  by_cases h0:0 < c.length
  ·exact .inr fun g hg=>Sl.ownLt (by omega) hC h0 hg
  ·exact .inl (by omega))
 clear hC;refine callsIn_wide.1 (callsIn_of_wp_marks (n:=6) Try.func35 rfl trivial ?_ rfl);refine wpIn_wide.2 ?_;simp only [Try.ntmps35,List.size_toArray,yB,yL,Nat.reduceAdd,Nat.reduceSub,Array.replicate_succ,Array.replicate_zero,List.push_toArray,List.append_toArray,List.nil_append,List.cons_append];go_wp2_with fail
 refine wp_loop_rounds 3 ?_;rw [rounds_succ];go_wp2_with fail
 refine (zqH _ _ _ ⟨_,_,_,rfl⟩).mono ?_;rintro e1 w1 ⟨rfl,rfl⟩;go_wp2_with fail
 obtain ⟨n0,hn0⟩:∃ n0,n0=w.heap.size:=⟨_,rfl⟩;obtain ⟨w5,hw5⟩:∃ w5,w5=((((w.alloc (.cells #[.int .u32 0,.int .u32 0] 93)).alloc (.cells #[.int .u8 4,.int .u8 5] 5)).alloc (.cells #[.int .i64 0] 3)).alloc (.cells #[.slice a c.length cap] 26)).alloc (.cells #[.int .u8 4] 5):=⟨_,rfl⟩;rw [<- hw5];obtain ⟨lb,hlb⟩:∃ lb,lb=w.heap.size:=⟨_,rfl⟩;obtain ⟨ob,hob⟩:∃ ob,ob=w.heap.size+1:=⟨_,rfl⟩;obtain ⟨nb0,hnb⟩:∃ nb0,nb0=w.heap.size+1+1:=⟨_,rfl⟩;obtain ⟨p0,hp0⟩:∃ p0,p0=w.heap.size+1+1+1:=⟨_,rfl⟩;obtain ⟨q0,hq0⟩:∃ q0,q0=w.heap.size+1+1+1+1:=⟨_,rfl⟩;have HL0:Hid (OwnV w5 lb 93 [.int .u32 (w32 (znY 0#32 [])),.int .u32 0]):=zh (by rw [hw5,hlb];exact ((((OwnV.new w 93 [.int .u32 0,.int .u32 0]).alloc _).alloc _).alloc _).alloc _);have HO0:Hid (OwnV w5 ob 5 [.int .u8 4,.int .u8 5]):=zh (by rw [hw5,hob];exact (((OwnV.newAt (w:=w.alloc _) (by simp) 5 [.int .u8 4,.int .u8 5]).alloc _).alloc _).alloc _);have HN0:Hid (OwnV w5 nb0 3 [.int .i64 0]):=zh (by rw [hw5,hnb];exact ((OwnV.newAt (w:=(w.alloc _).alloc _) (by simp) 3 [.int .i64 0]).alloc _).alloc _);have HP0:Hid (OwnV w5 p0 26 [.slice a c.length cap]):=zh (by rw [hw5,hp0];exact (OwnV.newAt (w:=((w.alloc _).alloc _).alloc _) (by simp) 26 [.slice a c.length cap]).alloc _);have HQ0:Hid (OwnV w5 q0 5 [.int .u8 4]):=zh (by rw [hw5,hq0];exact OwnV.newAt (w:=(((w.alloc _).alloc _).alloc _).alloc _) (by simp) 5 [.int .u8 4]);have hW0:Below n0 w w5:=by rw [hw5,hn0];exact (((((yR _ w).alloc (zr _) _).alloc (by simp) _).alloc (by simp;omega) _).alloc (by simp;omega) _).alloc (by simp;omega) _
 have hsz5:w5.heap.size=n0+5:=by rw [hw5,hn0];simp
 have HW0:=zh hW0;have HC0:Hid (SlC w5 c (.slice a c.length cap)):=zh (HC.out.below (by rw [<- hn0];exact hW0));rw [<- hq0,<- hp0,<- hnb,<- hob,<- hlb];rw [<- hn0] at HownC hlb hob hnb hp0 hq0
 have Hlb:Hid (c.length=0∨∀ g,(Value.slice a c.length cap).ownBlock=some g->g≠lb):=zh (by
  rcases HownC.out with h | h
  ·exact .inl h
  ·exact .inr fun g hg=>by have:=h g hg;omega)
 have Hn0:=zh hn0;have o1:n0<=lb:=by omega
 have o2:lb+1<=ob:=by omega
 have o3:ob+1<=nb0:=by omega
 have o4:nb0+1<=p0:=by omega
 have o5:p0+1<=q0:=by omega
 have o6:q0+1<=w5.heap.size:=by omega
 clear hw5 hn0 hW0 hlb hob hnb hp0 hq0 hsz5
 refine zpP (gf:=67) (lb:=#[.pointer (some ⟨p0,0,none⟩),.pointer (some ⟨q0,0,none⟩)]) rfl (enters_of Try.func67 (by kernel_rfl) rfl) (fun _=>rfl) (zp5 p0 q0 lb 4 c a cap hl Hlb.out (by omega) (by omega) w5 HC0.out HP0.out HQ0.out) KeepsBut.trans (KeepsBut.put lb)
  (MkI lb nb0 ob n0 0 none (fun pre=>.int .u32 (w32 (znY 0#32 pre))) (fun _=>.int .u32 0) w) (fun _ _ _=>False) (zqj (by intro d e;cases e) (by omega) (by omega) (by omega) (by omega)) (fun _ _ _ _ _ h _ _=>h) ⟨HL0.out,HN0.out,HO0.out,fun d e=>(by cases e),HW0.out,by omega⟩
  (fun x a' _=>a'={ tmps:=#[Value.slice a c.length cap,undef,Value.int .u32 0,Value.int .u32 0,Value.pointer (some ⟨lb,0,none⟩),Value.pointer (some ⟨nb0,0,none⟩),Value.int .u8 4,Value.int .i64 (x.val:Nat),Value.slice (some ⟨ob,0,none⟩) 2 2,Value.int .i64 2,Value.int .i64 0,Value.bool true,Value.int .i64 0,Value.pointer (some ⟨ob,0,none⟩),Value.int .u8 4,Value.slice a c.length cap,Value.int .u8 4,Value.func (Fn.func 67) #[] #[.pointer (some ⟨p0,0,none⟩),.pointer (some ⟨q0,0,none⟩)],Value.int .i64 (x.val:Nat),undef,undef,undef,undef,undef,undef,undef,undef,undef,undef,undef,undef],defers:=[] }) (fun x a' s W W' row h hg hr=>h) ?assign0 ?body0 ?done0 ?stop0
 case assign0 =>
  intro l pre x W K hi hK;gi_wp2
  exact hK _ _ ((KeepsOthers.refl _).from _) (KeepsBut.only (Only.refl _ _)) hi rfl
 case body0 =>
  rintro l pre x a' W ⟨h1,h2,h3,h4,h5,h6⟩ rfl;have l0:=OwnV.cell h1 (i:=0) rfl;have lf:=OwnV.free h1 0;have n00:=OwnV.cell h2 (i:=0) rfl;have H1:=zh h1;have H2:=zh h2;have H3:=zh h3;have H4:=zh h4;have H5:=zh h5;have hx32:=x.isLt;have hx0:(0:Int)<=(x.val:Nat):=by omega
  have Hsn:=zh (zp4 0#32 pre x);have Hsx:bits .or .u32 (w32 (znY 0#32 pre)) (IntKind.u32.wrap (2 ^ x.val))=w32 (znY 0#32 pre ||| zoB x.val):=by rw [zrm hx32,zoE]
  clear h1 h2 h3 h4 h5;gi_wp2
  gi_region_with (fail)
  all_goals
   gi_wp2
   rw [<- Hsn.out];exact ⟨zge (S:=fun g=>g=lb) (zpa W lb 0 _) (by rintro k rfl;exact ⟨_,_,H1.out⟩) _,KeepsBut.only (zpa W lb 0 _),(H1.out.set 0 _).drew,(H2.out.set_ne (by omega) _).drew,(H3.out.set_ne (by omega) _).drew,(fun d e=>by cases e),((H5.out.setCell (p:=⟨lb,0,none⟩) (by exact o1) _).drew),by simpa using h6⟩
 case stop0=>rintro D c pre W hD _ h _;exact h.elim
 case done0 =>
  rintro D1 ys W1 hD1 rfl ⟨h1,h2,h3,h4,h5,h6⟩ hDef;dsimp only at h1;rw [zp3] at h1;have o10:=OwnV.cell h3 (i:=1) rfl;have hsW:n0<=W1.heap.size:=h6;have H1:=zh h1;have H3:=zh h3;have H5:=zh h5;have HDf:=zh hDef;have hDl:=lt_of_block hDef;clear h1 h2 h3 h4 h5 hDef HL0 HO0 HN0 HP0 HQ0 HW0 HC0;go_wp2_with fail
  rw [rounds_succ];go_wp2_with fail
  refine (zqH _ _ _ ⟨_,_,_,rfl⟩).mono ?_;rintro e1 w1 ⟨rfl,rfl⟩;go_wp2_with fail
  obtain ⟨w7,hw7⟩:∃ w7,w7=((W1.alloc (.cells #[.int .i64 1] 3)).alloc (.cells #[.slice a c.length cap] 26)).alloc (.cells #[.int .u8 5] 5):=⟨_,rfl⟩;rw [<- hw7];obtain ⟨nb1,hnb⟩:∃ nb1,nb1=W1.heap.size:=⟨_,rfl⟩;obtain ⟨p1,hp1⟩:∃ p1,p1=W1.heap.size+1:=⟨_,rfl⟩;obtain ⟨q1,hq1⟩:∃ q1,q1=W1.heap.size+1+1:=⟨_,rfl⟩;have HL1:Hid (OwnV w7 lb 93 [.int .u32 (w32 (znW 4 c)),.int .u32 (w32 (znY 0#32 []))]):=zh (by rw [hw7];exact ((H1.out.alloc _).alloc _).alloc _);have HO1:Hid (OwnV w7 ob 5 [.int .u8 4,.int .u8 5]):=zh (by rw [hw7];exact ((H3.out.alloc _).alloc _).alloc _);have HN1:Hid (OwnV w7 nb1 3 [.int .i64 1]):=zh (by rw [hw7,hnb];exact ((OwnV.new W1 3 [.int .i64 1]).alloc _).alloc _);have HP1:Hid (OwnV w7 p1 26 [.slice a c.length cap]):=zh (by rw [hw7,hp1];exact (OwnV.newAt (w:=W1.alloc _) (by simp) 26 [.slice a c.length cap]).alloc _);have HQ1:Hid (OwnV w7 q1 5 [.int .u8 5]):=zh (by rw [hw7,hq1];exact OwnV.newAt (w:=(W1.alloc _).alloc _) (by simp) 5 [.int .u8 5]);have hW1:Below n0 w w7:=by rw [hw7];exact ((H5.out.alloc (by omega) _).alloc (by simp;omega) _).alloc (by simp;omega) _
  have HD1:Hid (w7.heap[D1]? = some (.deferred (some []))):=zh (by
   have hbz:Below W1.heap.size W1 w7:=by rw [hw7];exact (((yR _ W1).alloc (zr _) _).alloc (by simp) _).alloc (by simp;omega) _
   rw [hbz.block D1 hDl];exact HDf.out)
  have hsz7:w7.heap.size=W1.heap.size+3:=by rw [hw7];simp
  have HW1:=zh hW1;have HC1:Hid (SlC w7 c (.slice a c.length cap)):=zh (HC.out.below (by rw [<- Hn0.out];exact hW1));rw [<- hq1,<- hp1,<- hnb];have hlbW:lb < W1.heap.size:=H1.out.lt;have hobW:ob < W1.heap.size:=H3.out.lt;have o7:W1.heap.size<=nb1:=by omega
  have o8:nb1+1<=p1:=by omega
  have o9:p1+1<=q1:=by omega
  have o11:q1+1<=w7.heap.size:=by omega
  clear hw7 hW1 hnb hp1 hq1 hsz7 H1 H3 H5 HDf o10
  refine zpP (gf:=67) (lb:=#[.pointer (some ⟨p1,0,none⟩),.pointer (some ⟨q1,0,none⟩)]) rfl (enters_of Try.func67 (by kernel_rfl) rfl) (fun _=>rfl) (zp5 p1 q1 lb 5 c a cap hl Hlb.out (by omega) (by omega) w7 HC1.out HP1.out HQ1.out) KeepsBut.trans (KeepsBut.put lb)
   (MkI lb nb1 ob n0 1 (some D1) (fun _=>.int .u32 (w32 (znW 4 c))) (fun pre=>.int .u32 (w32 (znY 0#32 pre))) w) (fun _ _ _=>False) (zqj (by intro d e;cases e;omega) (by omega) (by omega) (by omega) (by omega)) (fun _ _ _ _ _ h _ _=>h) ⟨HL1.out,HN1.out,HO1.out,fun d e=>(by cases e;exact HD1.out),HW1.out,by omega⟩
   (fun x a' _=>a'={ tmps:=#[Value.slice a c.length cap,undef,Value.int .u32 0,Value.int .u32 0,Value.pointer (some ⟨lb,0,none⟩),Value.pointer (some ⟨nb1,0,none⟩),Value.int .u8 5,Value.int .i64 (x.val:Nat),Value.slice (some ⟨ob,0,none⟩) 2 2,Value.int .i64 2,Value.int .i64 1,Value.bool true,Value.int .i64 1,Value.pointer (some ⟨ob,1,none⟩),Value.int .u8 5,Value.slice a c.length cap,Value.int .u8 5,Value.func (Fn.func 67) #[] #[.pointer (some ⟨p1,0,none⟩),.pointer (some ⟨q1,0,none⟩)],Value.int .i64 (x.val:Nat),undef,undef,undef,undef,undef,undef,undef,Value.int .i64 1,undef,undef,undef,undef],defers:=[] }) (fun x a' s W W' row h hg hr=>h) ?assign1 ?body1 ?done1 ?stop1
  case assign1 =>
   intro l pre x W K hi hK;gi_wp2
   exact hK _ _ ((KeepsOthers.refl _).from _) (KeepsBut.only (Only.refl _ _)) hi rfl
  case body1 =>
   rintro l pre x a' W ⟨h1,h2,h3,h4,h5,h6⟩ rfl;have l0:=OwnV.cell h1 (i:=1) rfl;have lf:=OwnV.free h1 1;have n00:=OwnV.cell h2 (i:=0) rfl;have H1:=zh h1;have H2:=zh h2;have H3:=zh h3;have H4:=zh h4;have H5:=zh h5;have hx32:=x.isLt;have hx0:(0:Int)<=(x.val:Nat):=by omega
   have Hsn:=zh (zp4 0#32 pre x);have Hsx:bits .or .u32 (w32 (znY 0#32 pre)) (IntKind.u32.wrap (2 ^ x.val))=w32 (znY 0#32 pre ||| zoB x.val):=by rw [zrm hx32,zoE]
   clear h1 h2 h3 h4 h5;gi_wp2
   gi_region_with (fail)
   all_goals
    gi_wp2
    rw [<- Hsn.out];exact ⟨zge (S:=fun g=>g=lb) (zpa W lb 1 _) (by rintro k rfl;exact ⟨_,_,H1.out⟩) _,KeepsBut.only (zpa W lb 1 _),(H1.out.set 1 _).drew,(H2.out.set_ne (by omega) _).drew,(H3.out.set_ne (by omega) _).drew,(fun d e=>by cases e;exact (Below.heap_setCell W ⟨lb,1,none⟩ _ _ (show D1≠lb by omega)).trans (H4.out _ rfl)),((H5.out.setCell (p:=⟨lb,1,none⟩) (by exact o1) _).drew),by simpa using h6⟩
  case stop1=>rintro D c pre W hD _ h _;exact h.elim
  case done1 =>
   rintro D2 ys W2 hD2 rfl ⟨h1,h2,h3,h4,h5,h6⟩ hDef;dsimp only at h1;rw [zp3] at h1;have l0:=OwnV.cell h1 (i:=0) rfl;have l1:=OwnV.cell h1 (i:=1) rfl;have HD2:=zh hDef;have HD3:=zh (h4 _ rfl);have H5:=zh h5;have hDl2:=lt_of_block hDef;clear h1 h2 h3 h4 h5 hDef;go_wp2_with fail
   rw [rounds_succ];go_wp2_with fail
   refine zac (DrewOf _) (by kernel_rfl) (by kernel_rfl) (DrewOf.start _) ?_
   repeat
    try simp only [Act.put,zs1,zs3,zs2]
    apply stepsSeq.cons
    ·rintro w' ⟨nq,rfl⟩;simp only [Act.put,zs1,zs3,zs2];go_wp2_with (fail)
     first | exact ⟨rfl,nq,rfl⟩ | exact ⟨rfl,nq,(World.drewN_drewN _ _ _).symm⟩ | exact ⟨rfl,nq,by simp⟩
   try simp only [Act.put,zs1,zs3,zs2]
   refine stepsSeq.nil ?_;rintro w' ⟨nq,rfl⟩;go_wp2_with fail
   refine ⟨by simp,.inl ⟨_,_,rfl,run_takeDeferred (w:=W2.drewN nq) HD2.out,?_⟩⟩;have HD4:Hid (((W2.drewN nq).putObj D2 (.deferred none)).heap[D1]? = some (.deferred (some []))):=zh ((World.putObj_heap_other (by omega)).trans HD3.out);refine ⟨by simp,.inl ⟨_,_,rfl,run_takeDeferred HD4.out,?_⟩⟩;refine ⟨_,by simp [results,Try.results35,go_sem],rfl,?_⟩;rw [<- Hn0.out];exact (((Go.Proofs.Ytdeneckmoejcfaa.Below.drewN H5.out nq).grown (grownBy_putObj' _ D2 _) h6 (fun r e=>by cases e;omega)).grown (grownBy_putObj' _ D1 _) (yT h6 (grownBy_putObj' (W2.drewN nq) D2 _).size) (fun r e=>by cases e;omega))
end Go.Proofs.Ytdeneckmoejcfaa

/- What a zfe list looks like, and that its joined texts are zfe to the same tokens. Plain mathematics. -/
import Derived.Test.YtdhikpkecmaplaaGreatDoorTransSMk
import Derived.Lib.Join
import Derived.Test.YtdhikpkecmaplaaGreatDoorShelf
import Derived.Shelf.Abstract
import Derived.Shelf.RegionOpen
import Derived.Lib.Overlaps
import Derived.Lib.AppendZerosOnto
import Derived.Laws.NewBlocks
import Derived.Laws.Externs
import Derived.Laws.CopyRow
import Derived.Shelf.RegionOpenPlain
set_option linter.unusedSimpArgs false
set_option linter.unusedVariables false
set_option maxRecDepth 100000
set_option maxHeartbeats 4000000
namespace Go.Proofs.YtdhikpkecmaplaaGreatDoor
def endT (l c : Int) : Tok := ⟨4, [], 0, l, c⟩
theorem zga:∀ (n:Nat) (bs:List UInt8),bs.length<=n->∀ (l c:Int) (ts:List Tok),lexF bs l c=.ok ts->∃ us l' c',ts=us++[endT l' c']/\∀ t ∈ us,TokOk t:=by
 intro n
 induction n with
 | zero =>
  intro bs hb l c ts h;obtain rfl:bs=[]:=List.eq_nil_of_length_eq_zero (by omega);rw [zda] at h;cases h
  exact ⟨[],l,c,rfl,by simp⟩
 | succ n ih =>
  intro bs hb l c ts h;rw [zbY] at h;have hsl:=zc9 bs false l c
  generalize (zam bs false l c).1=bs' at *
  generalize (zam bs false l c).2.1=l' at *
  generalize (zam bs false l c).2.2=c' at *
  rcases zet bs' l' c' with ⟨_,h1⟩ | ⟨code,_,h1,_⟩ | ⟨t,ht,_,_,h2,h3,h1⟩
  ·rw [h1] at h;cases h;exact ⟨[],l',c',rfl,by simp⟩
  ·rw [h1] at h;cases h
  ·rw [h1] at h;have ht1:1<=t.text.length:=List.length_pos_iff.2 ht.text
   cases hr:lexF (bs'.drop t.text.length) l' (c'+t.text.length) with
   | err a b c=>rw [hr] at h;cases h
   | ok m =>
    rw [hr] at h;cases h;have hl:(bs'.drop t.text.length).length=bs'.length - t.text.length:=List.length_drop;obtain ⟨us,a,b,rfl,hu⟩:=ih _ (by omega) _ _ _ hr;refine ⟨t :: us,a,b,rfl,fun x hx=>?_⟩;rcases List.mem_cons.1 hx with rfl | hx
    ·exact ht
    ·exact hu x hx
open Go.RowKit
open Go.RowKit Go.Shelf
attribute [local go_sem] Oper.semAt_some

def KeepsCells (W W' : World) : Prop := W.heap.size <= W'.heap.size /\ ∀ (k : Nat) (o : Obj), W.heap[k]? = some o -> o.isCells = true -> W'.heap[k]? = some o
theorem KeepsCells.trans {A B C:World} (h:KeepsCells A B) (k:KeepsCells B C):KeepsCells A C:=⟨yT h.1 k.1,fun i o hi ho=>k.2 i o (h.2 i o hi ho) ho⟩
theorem KeepsCells.put (W:World) (l:Nat) (o o':Obj) (h:W.heap[l]? = some o) (hc:o.isCells=false):KeepsCells W (W.putObj l o'):=by
 have hg:=grownBy_putObj' W l o';refine ⟨hg.size,fun k u hk hu=>?_⟩;rw [hg.block k (lt_of_block hk) (fun e=>by cases e;rw [h] at hk;cases hk;rw [hc] at hu;cases hu)];exact hk
theorem OwnV.keeps {W W':World} {g:Nat} {e:TypeId} {vs:List Value} (h:OwnV W g e vs) (hk:KeepsCells W W'):OwnV W' g e vs:=hk.2 _ _ h rfl
theorem KeepsCells.alloc (W:World) (o:Obj):KeepsCells W (W.alloc o):=⟨by simp,fun k u hk _=>(Below.heap_alloc W o k (lt_of_block hk)).trans hk⟩

def Ends (t : Tok) (r : List UInt8) : Prop := (t.kind ≠ 3 -> r.head?.all (fun b => !zaf b) = true) /\ (t.kind = 3 -> ∀ a b r', t.text = [a] -> r = b :: r' -> ¬ (a.toNat, b.toNat) ∈ zbB)
theorem Ends.take {t:Tok} {r:List UInt8} (h:Ends t r) (n:Nat):Ends t (r.take n):=by
 cases r with
 | nil=>rw [List.take_nil];exact h
 | cons b r =>
  cases n with
  | zero=>exact ⟨fun _=>rfl,fun _ a b r' _ e=>by cases e⟩
  | succ n =>
   rw [List.take_succ_cons];exact ⟨fun hk=>h.1 hk,fun hk a b' r' ht e=>by cases e;exact h.2 hk a b _ ht rfl⟩
theorem zlE {xs ys:List UInt8} (h0:xs≠[]) (h:zag xs=xs.length) (hy:∀ a b r',xs=[a]->ys=b :: r'->¬ (a.toNat,b.toNat) ∈ zbB):zag (xs++ys)=xs.length:=by
 match xs,h0 with
 | [a],_ =>
  cases ys with
  | nil=>exact h
  | cons b r =>
   have h1:a.toNat ∈ zbt:=by
    simp only [zag] at h;split at h
    ·assumption
    ·exact absurd h (by simp)
   show zag (a :: b :: r)=1;simp only [zag]
   rw [yN (hy a b r rfl rfl),yP h1]
 | [a,b],_=>exact h
 | a :: b :: d :: r,_ =>
  have:=zh6 (a :: b :: d :: r);rw [h] at this;simp at this
theorem zkp {t:Tok} (ht:TokOk t) {r:List UInt8} (hr:Ends t r) (l c:Int):lexT (t.text++r) l c=(lexF r l (c+t.text.length)).cons (t.moved l c):=by
 cases ht with
 | @word b s l0 c0 h1 h2 h3 =>
  have hw:(b :: (s++r)).takeWhile zaf=b :: s:=zcH (xs:=b :: s) h2 (hr.1 (by simp));show zaK lexF (b :: (s++r)) l c=_;rw [zaK,yP h1,hw,yN (by omega),show b :: (s++r)=(b :: s)++r from rfl,List.drop_left]
  rfl
 | @number b s n l0 c0 h0 h1 h2 h3 =>
  have hw:(b :: (s++r)).takeWhile zaf=b :: s:=zcH (xs:=b :: s) h2 (hr.1 (by simp));show zaK lexF (b :: (s++r)) l c=_;rw [zaK,yN (by rw [h0];simp),yP h1,hw,h3,show b :: (s++r)=(b :: s)++r from rfl,List.drop_left]
  rfl
 | @sign b s l0 c0 h0 h1 h2 =>
  have hs:zag (b :: (s++r))=(b :: s).length:=zlE (xs:=b :: s) (by simp) h2 (fun a b' r' e1 e2=>hr.2 rfl a b' r' e1 e2);show zaK lexF (b :: (s++r)) l c=_;rw [zaK,yN (by rw [h0];simp),yN (by rw [h1];simp),hs,yN (by simp),show b :: (s++r)=(b :: s)++r from rfl,List.drop_left,List.take_left];rfl
theorem zlF {t:Tok} (ht:TokOk t) {r:List UInt8} (hr:Ends t r) (l c:Int):lexF (t.text++r) l c=(lexF r l (c+t.text.length)).cons (t.moved l c):=by
 rw [zbY,zgY ht];exact zkp ht hr l c

theorem zoS (b off k:Nat):(⟨b,off,none⟩:Addr).add k=⟨b,off+k,none⟩:=by
 unfold Addr.add;split
 ·next h=>rw [h,Nat.add_zero]
 ·rfl
theorem zpc {P:Program} (W:World) (dT sT ty elem:TypeId) (hu:P.underlying dT=some (.slice elem)) (hs:(P.info? elem).map (·.size)=some 3) (g off dLen dCap:Nat) (ad:Addr) (sLen sCap:Nat) (cur:Array Value) (t:TypeId) (cs:List Value) (m:Nat)
  (hg:W.heap[g]? = some (.cells cur t (0,0))) (hm:Nat.min sLen dLen=m) (hn:cs.length=m * 3) (hsrc:∀ j v,cs[j]? = some v->W.cell? (ad.add j)=some v) (hfit:off+cs.length<=cur.size) (h1:∀ v ∈ cs,v.oneCell'=true) :
  (Builtin.copy_ #[dT,sT] ty #[.slice (some ⟨g,off,none⟩) dLen dCap,.slice (some ad) sLen sCap]).run P W=.ok (goInt m) (W.setRow g (cur.toList.take off++(cs++cur.toList.drop (off+cs.length))).toArray):=by
 have hl:=run_loadCells_list (P:=P) W ad cs hsrc;have hst:=run_storeCells_at P g off t cs 0 cur W hg (by omega) h1
 cases hq:P.info? elem with
 | none=>simp [hq] at hs
 | some i =>
  have hi:i.size=3:=by simpa [hq] using hs
  rw [hn] at hl;simp [Builtin.copy_,run_underlying hu,Builtin.lenOf,Builtin.firstCells,sizeOf,typeInfo,hq,hi,hm,hl,hst]
theorem zpm {P:Program} {ops:Array Oper} {o:Oper} {a:Act} {w:World} {K:Act->World->Prop} {Q:Exit->Act->World->Prop} {E:Prop}
  (hg:o.guard=none) (d x:Operand) (dT sT:TypeId) (hop:o.op=Op.call { callee:=Callee.builtin Builtin.copy,args:=#[d,x],argTypes:=#[dT,sT] })
  (v u:Value) (hd:a.eval d=v) (hx:a.eval x=u) {v':Value} {w':World} (hr:(Builtin.copy_ #[dT,sT] o.type #[v,u]).run P w=.ok v' w') (hK:K (a.put o.dst v') w') :
  if Region.wanted o (yielded ops a.tmps)=true then Oper.wp P o a w K Q else E:=by
 have hw:Region.wanted o (yielded ops a.tmps)=true:=by simp [Region.wanted,hg]
 rw [yP hw];unfold Oper.wp;simp [execOp,hop,resolve,invoke,builtin,hd,hx,hr,Result.andThen];exact hK
theorem ztH {w:World} {vb:Nat} {p:Pt} (h:OwnV w vb 32 p.cells):Sl w 3 1 p.cells (.slice (some ⟨vb,0,none⟩) 1 1):=by
 refine ⟨_,1,rfl,zr _,by decide,rfl,fun _=>⟨vb,0,rfl,fun j hj=>?_⟩⟩;rw [Nat.zero_add];have hj2:j < p.cells.length:=hj;rw [yD hj2];exact h.cell (yD hj2)
theorem zpu (p:Pt):p.cells.all (fun u=>u.oneCell')=true:=rfl
theorem zpv (l:List Pt) (i:Nat) (p:Pt):znD (l.take i++p :: l.drop i)=znD (l.take i)++(p.cells++znD (l.drop i)):=by
 rw [zox];rfl
theorem zrE {w:World} {B:Nat} {l:List Pt} {v:Value} (hown:w.ownsRow B 32 3 v l.length (znD l)) (hBw:B<=w.heap.size) (hl:l.length<=1000) {p:Pt} {vb:Nat} (hp:OwnV w vb 32 p.cells) :
  Calls Tryz.prog 58 #[v,.int .i64 l.length,.slice (some ⟨vb,0,none⟩) 1 1] w fun e w'=>(∃ v',e=.returned v'/\w'.ownsRow B 32 3 v' (l.length+1) (znD l++p.cells))/\Below B w w'/\w.grownBy w' v.ownBlock:=by
 have HO:=zh hown;have HP:=zh (ztH hp);obtain ⟨a,cap,rfl,hc1,hc2⟩:=Sl.form (Sl.of_own hown)
 generalize znD l=cs at *
 have H1:=zh (zpu p)
 generalize p.cells=ps at *
 generalize l.length=n at *
 have hz1:¬ ((1:Int)=0):=by decide
 clear hown hp;have hn0:(0:Int)<=(n:Int):=by omega
 have hn1:(n:Int)<=(cap:Int):=by omega
 go_enter Tryz.func58,Tryz.ntmps58
 go_wp2_with (at_builtin;refine zn0 rfl (.tmp 23) (.tmp 24) 24 rfl HO.out zpt Tryz.underlying24 rfl (by decide) rfl HP.out rfl H1.out (by unfold maxLen;omega) (by omega) hBw ?_;intro v0 w0 hown0 hg0 hb0 hat0;have Hown:=zh hown0;have Hb0:=zh hb0;have Hg0:=zh hg0;clear hown0 hg0 hb0 hat0)
 all_goals
  go_ret;exact ⟨⟨_,rfl,Hown.out⟩,Hb0.out,by cases a <;> exact Hg0.out⟩
theorem zq9 {A D R P:List Value} (hP:P.length=3) (hR:3<=R.length) :
  ((((A++(D++R)).take (A.length+3)++(D++(A++(D++R)).drop (A.length+3+D.length))).take A.length)++(P++((A++(D++R)).take (A.length+3)++(D++(A++(D++R)).drop (A.length+3+D.length))).drop (A.length+P.length)))=A++(P++(D++R.drop 3)):=by
 have e1:(A++(D++R)).take (A.length+3)=A++(D++R).take 3:=by
  rw [List.take_append,List.take_of_length_le (by omega),show A.length+3 - A.length=3 by omega]
 have e2:(A++(D++R)).drop (A.length+3+D.length)=R.drop 3:=by
  rw [show A.length+3+D.length=A.length+(D.length+3) by omega,<- List.drop_drop,List.drop_left,<- List.drop_drop,List.drop_left]
 have hl:((D++R).take 3).length=3:=by rw [List.length_take,yA];omega
 rw [e1,e2,hP,List.append_assoc A,List.take_left];congr 2
 rw [show A.length+3=A.length+3 from rfl,<- List.drop_drop,List.drop_left];have:=List.drop_left (l₁:=(D++R).take 3) (l₂:=D++R.drop 3);rw [hl] at this;exact this
theorem zrF {A D Z P:List Value} (hP:P.length=3) (hZ:3+D.length<=Z.length) :
  ((((A++Z).take A.length++(P++(A++Z).drop (A.length+P.length))).take (A.length+3))++(D++((A++Z).take A.length++(P++(A++Z).drop (A.length+P.length))).drop (A.length+3+D.length)))=A++(P++(D++Z.drop (3+D.length))):=by
 rw [hP,List.take_left,<- List.drop_drop,List.drop_left]
 have e1:(A++(P++Z.drop 3)).take (A.length+3)=A++P:=by
  rw [List.take_append,List.take_of_length_le (by omega),show A.length+3 - A.length=3 by omega,<- hP,List.take_left]
 have e2:(A++(P++Z.drop 3)).drop (A.length+3+D.length)=Z.drop (3+D.length):=by
  rw [show A.length+3+D.length=A.length+(3+D.length) by omega,<- List.drop_drop,List.drop_left]
  have:(P++Z.drop 3).drop (3+D.length)=(Z.drop 3).drop D.length:=by
   rw [<- hP,<- List.drop_drop,List.drop_left,hP]
  rw [this,List.drop_drop]
 rw [e1,e2,List.append_assoc]
theorem zqn {w:World} {g:Nat} {t:TypeId} {cur:Array Value} {f:Nat × Nat} (h:w.heap[g]? = some (.cells cur t f)):w.shape? g=some (t,cur.size):=by
 simp [World.shape?,h]
theorem zpJ (w:World) (g:Nat) (cs:Array Value):w.grownBy (w.setRow g cs) (some g):=⟨rfl,rfl,rfl,by simp [World.setRow],fun k hk hne=>setRow_other w g k cs (fun e=>hne (by rw [e]))⟩
theorem zpK {a b c:World} {r:Option Nat} (h:a.grownBy b r) (k:b.grownBy c r):a.grownBy c r:=⟨k.os.trans h.os,k.tape.trans h.tape,k.output.trans h.output,yT h.size k.size,fun i hi hne=>(k.block i (Nat.lt_of_lt_of_le hi h.size) hne).trans (h.block i hi hne)⟩
theorem zra {a b:World} (h:Below a.heap.size a b) (r:Option Nat):a.grownBy b r:=⟨h.os,h.tape,h.output,h.size,fun k hk _=>h.block k hk⟩
theorem zoG {B g:Nat} {w0 w:World} (hb:Below B w0 w) (hBg:B<=g) (cs:Array Value):Below B w0 (w.setRow g cs):=
 hb.trans ⟨rfl,rfl,rfl,by simp [World.setRow],fun k hk=>setRow_other w g k cs (by omega)⟩
theorem zqP {w:World} {B g cap i vb:Nat} {l:List Pt} {cur:Array Value} {p:Pt} (hg:w.heap[g]? = some (.cells cur 32 (0,0))) (hBg:B<=g) (hBw:B<=w.heap.size) (hcap:cap<=maxLen) (hroom:l.length+1<=cap) (hcs:cur.size=cap * 3) (htake:cur.toList.take (l.length * 3)=znD l) (hi:i < l.length) (hl:l.length<=1000) (hp:OwnV w vb 32 p.cells) (hvb:vb≠g) :
  Calls Tryz.prog 58 #[.slice (some ⟨g,0,none⟩) l.length cap,.int .i64 i,.slice (some ⟨vb,0,none⟩) 1 1] w fun e w'=>(∃ v',e=.returned v'/\w'.ownsRow B 32 3 v' (l.length+1) (znD (l.take i++p :: l.drop i)))/\Below B w w'/\w.grownBy w' (some g):=by
 have hsz:(Tryz.prog.info? 32).map (·.size)=some 3:=by kernel_rfl
 have hT:=Tryz.underlying24;obtain ⟨A,hA⟩:∃ A,A=znD (l.take i):=⟨_,rfl⟩;obtain ⟨D,hD⟩:∃ D,D=znD (l.drop i):=⟨_,rfl⟩;have hAl:A.length=i * 3:=by rw [hA,znR,List.length_take];congr 1;omega
 have hDl:D.length=(l.length - i) * 3:=by rw [hD,znR,List.length_drop]
 have hAD:znD l=A++D:=by rw [hA,hD,<- zox,List.take_append_drop]
 obtain ⟨R,hR⟩:∃ R,R=cur.toList.drop (l.length * 3):=⟨_,rfl⟩;have hcur:cur.toList=A++(D++R):=by rw [<- List.append_assoc,<- hAD,<- htake,hR,List.take_append_drop]
 have hRl:R.length=cap * 3 - l.length * 3:=by rw [hR,List.length_drop];simp [hcs]
 have hD1:∀ v ∈ D,v.oneCell'=true:=fun v hv=>by rw [hD] at hv;exact List.all_eq_true.1 (zpq _) v hv
 have hpl:p.cells.length=3:=rfl;have hP1:∀ v ∈ p.cells,v.oneCell'=true:=fun v hv=>List.all_eq_true.1 (zpu p) v hv
 have hcell:∀ j v,cur.toList[j]? = some v->w.cell? ⟨g,j,none⟩=some v:=fun j v hj=>by simp [World.cell?,hg];simpa using hj
 have hov:∀ o lb cb,(callFunc 96 #[.slice (some ⟨vb,0,none⟩) 1 1,.slice (some ⟨g,o,none⟩) lb cb]).run Tryz.prog w=.ok (.value (.bool false)) w:=fun o lb cb=>by
  rw [run_callFunc_extern Tryz.func96 (by kernel_rfl) (by kernel_rfl) (by kernel_rfl) (e:=Extern.SlicesOverlaps.overlaps #[24,24] #[4]) (by kernel_rfl),
   Lib.run_overlaps_apart w 24 4 32 hT 3 (fun _=>by kernel_rfl) ⟨vb,0,none⟩ ⟨g,o,none⟩ 1 1 lb cb hvb 32 32 3 cur.size (zqn hp) (zqn hg) (by omega) (hp.free 0) (hp.free 3)]
  rfl
 obtain ⟨cur1,hcur1⟩:∃ c,c=(cur.toList.take ((i+1) * 3)++(D++cur.toList.drop ((i+1) * 3+D.length))).toArray:=⟨_,rfl⟩
 have hcp1:∀ (W:World),W.heap=w.heap->∀ o1 o2 d1 s1,o1=(i+1) * 3->o2=i * 3->Nat.min s1 d1=l.length - i->∀ ty dc sc,(Builtin.copy_ #[24,24] ty #[.slice (some ⟨g,o1,none⟩) d1 dc,.slice (some ⟨g,o2,none⟩) s1 sc]).run Tryz.prog W=.ok (goInt (l.length - i:Nat)) (W.setRow g cur1):=fun W hW o1 o2 d1 s1 e1 e2 e3 ty dc sc=>by
  subst e1;subst e2;rw [hcur1]
  exact zpc W _ _ ty 32 hT hsz g ((i+1) * 3) d1 dc ⟨g,i * 3,none⟩ s1 sc cur 32 D (l.length - i) (by rw [hW];exact hg) e3 hDl
   (fun j v hj=>by
    rw [zoS];show W.cell? _=_;have:=hcell (i * 3+j) v (by rw [hcur,List.getElem?_append_right (by omega),show i * 3+j - A.length=j by omega,List.getElem?_append_left (by have:=(List.getElem?_eq_some_iff.1 hj).1;omega)];exact hj);unfold World.cell? at this ⊢
    rw [hW];exact this) (by omega) hD1
 have hc1s:cur1.size=cap * 3:=by rw [hcur1];simp;omega
 obtain ⟨cur2,hcur2⟩:∃ c,c=(cur1.toList.take (i * 3)++(p.cells++cur1.toList.drop (i * 3+p.cells.length))).toArray:=⟨_,rfl⟩
 have hfin:cur2.toList=A++(p.cells++(D++R.drop 3)):=by
  rw [hcur2,hcur1,hcur];simp only [List.toList_toArray];rw [<- hAl,show (i+1) * 3=A.length+3 by omega];exact zq9 hpl (by omega)
 have hpv:vb < w.heap.size:=hp.lt
 have hcp2:∀ (W:World),W.heap=(w.setRow g cur1).heap->∀ o1 d1,o1=i * 3->1<=d1->∀ ty dc,(Builtin.copy_ #[24,24] ty #[.slice (some ⟨g,o1,none⟩) d1 dc,.slice (some ⟨vb,0,none⟩) 1 1]).run Tryz.prog W=.ok (goInt (1:Nat)) (W.setRow g cur2):=fun W hW o1 d1 e1 hd ty dc=>by
  subst e1;rw [hcur2]
  exact zpc W _ _ ty 32 hT hsz g (i * 3) d1 dc ⟨vb,0,none⟩ 1 1 cur1 32 p.cells 1 (by rw [hW];exact setRow_heap w g _ _ _ _ hg) (by simp only [Nat.min_def];split <;> omega) rfl
   (fun j v hj=>by
    rw [zoS,Nat.zero_add]
    have h0:OwnV W vb 32 p.cells:=by
     unfold OwnV at hp ⊢;rw [hW,setRow_other w g vb _ hvb];exact hp
    exact h0.cell hj) (by omega) hP1
 have hz1:¬ ((1:Int)=0):=by decide
 have hz2:¬ ((i:Int)=(l.length:Int)):=by omega
 have hw1:IntKind.i64.wrap ((i:Int)+1)=(i:Int)+1:=by rw [IntKind.wrap_i64];omega
 have hw2:IntKind.i64.wrap ((l.length:Int)+1)=(l.length:Int)+1:=by rw [IntKind.wrap_i64];omega
 have hb1:(0:Int)<=(i:Int)+1:=by omega
 have hb2:¬ (cap=i+1):=by omega
 have hb3:(i:Int)<=(l.length:Int)+1:=by omega
 have hb4:¬ (cap=i):=by omega
 have hb5:(i:Int)<=(l.length:Int):=by omega
 have htn:((i:Int)+1).toNat=i+1:=by omega
 have htn2:((l.length:Int)+1).toNat=l.length+1:=by omega
 have hb6:(i:Int)+1<=(l.length:Int)+1:=by omega
 have hb7:(l.length:Int)+1<=(cap:Int):=by omega
 have hb8:¬ ((l.length:Int)+1 > (cap:Int)):=by omega
 have Hfin:=zh hfin;have Hput:=zh (zpv l i p);have HAl:=zh hAl;have HDl:=zh hDl;have HRl:=zh hRl;have Hcut:=zh hcs;have HA:=zh hA;have HD:=zh hD;have Hg:=zh hg;have Hcp1:=zh hcp1;have Hcp2:=zh hcp2;have Hc2:Hid (cur2.size=cap * 3):=zh (by rw [hcur2];simp;omega);have Hcap:=zh hcap;clear hfin hcur2 hcur1 hcur hR hA hD hAD htake hAl hDl hRl hcs hcell hD1 hP1 hsz hcp1 hcp2 hp hg hc1s hcap
 generalize hnl:l.length=n at *
 have Hn:=zh hnl;clear hnl;go_enter Tryz.func58,Tryz.ntmps58
 go_wp2_with (simp only [hov])
 have mixed:Tryz.prog.follows .mixedOrders=true:=by kernel_rfl
 go_region_law_o (refine zpm rfl (.tmp 73) (.tmp 76) 24 24 rfl (.slice (some ⟨g,(i+1) * 3,none⟩) (n - i) (cap - (i+1))) (.slice (some ⟨g,i * 3,none⟩) (n+1 - i) (cap - i)) (by simp [Act.eval,Act.put]) (by simp [Act.eval,Act.put]) (Hcp1.out w.drew rfl ((i+1) * 3) (i * 3) (n - i) (n+1 - i) rfl rfl (by simp only [Nat.min_def];split <;> omega) 3 (cap - (i+1)) (cap - i)) ?_)
 have hrun2:=Hcp2.out (w.drew.setRow g cur1) rfl (i * 3) (n+1 - i) rfl (by omega) 3 (cap - i);go_wp2_with fail
 go_ret;refine ⟨⟨_,rfl,?_⟩,?_,?_⟩
 ·have hnl:=Hn.out;refine ⟨by rw [znR,yA,yB,List.length_take,List.length_drop,hnl,Nat.min_eq_left (by omega)];congr 1;omega,.inr ⟨g,cap,cur2,rfl,hBg,setRow_heap _ g cur1 _ _ _ (setRow_heap _ g cur _ _ _ Hg.out),hroom,Hcap.out,Hc2.out,?_⟩⟩;rw [Hput.out,Hfin.out,<- HA.out,<- HD.out];rw [show A++(p.cells++(D++R.drop 3))=(A++(p.cells++D))++R.drop 3 by simp [List.append_assoc]];rw [List.take_left'];rw [yA,yA,hpl,HAl.out,HDl.out];omega
 ·exact Below.trans (b:=w.drew.setRow g cur1) (zoG (yR B w).drew hBg _) (zoG (yR B _) hBg _)
 ·exact zpK (b:=w.drew.setRow g cur1) (zpK (b:=w.drew) ⟨rfl,rfl,rfl,zr _,fun _ _ _=>rfl⟩ (zpJ w.drew g cur1)) (zpJ _ g cur2)
theorem zrb {w:World} {B g cap i vb:Nat} {l:List Pt} {cur:Array Value} {p:Pt} (hg:w.heap[g]? = some (.cells cur 32 (0,0))) (hBg:B<=g) (hBw:B<=w.heap.size) (hroom:l.length=cap) (hcs:cur.size=cap * 3) (htake:cur.toList.take (l.length * 3)=znD l) (hi:i < l.length) (hl:l.length<=1000) (hp:OwnV w vb 32 p.cells) :
  Calls Tryz.prog 58 #[.slice (some ⟨g,0,none⟩) l.length cap,.int .i64 i,.slice (some ⟨vb,0,none⟩) 1 1] w fun e w'=>(∃ v',e=.returned v'/\w'.ownsRow B 32 3 v' (l.length+1) (znD (l.take i++p :: l.drop i)))/\Below B w w'/\w.grownBy w' (some g):=by
 have hsz:(Tryz.prog.info? 32).map (·.size)=some 3:=by kernel_rfl
 have hT:=Tryz.underlying24;obtain ⟨i0,hi0,hz0,hzs,hzb⟩:=info_parts zpt;obtain ⟨A,hA⟩:∃ A,A=znD (l.take i):=⟨_,rfl⟩;obtain ⟨D,hD⟩:∃ D,D=znD (l.drop i):=⟨_,rfl⟩;have hAl:A.length=i * 3:=by rw [hA,znR,List.length_take];congr 1;omega
 have hDl:D.length=(l.length - i) * 3:=by rw [hD,znR,List.length_drop]
 have hAD:znD l=A++D:=by rw [hA,hD,<- zox,List.take_append_drop]
 have hcur:cur.toList=A++D:=by rw [<- hAD,<- htake,List.take_of_length_le];simp [hcs,hroom]
 have hD1:∀ v ∈ D,v.oneCell'=true:=fun v hv=>by rw [hD] at hv;exact List.all_eq_true.1 (zpq _) v hv
 have hpl:p.cells.length=3:=rfl;have hP1:∀ v ∈ p.cells,v.oneCell'=true:=fun v hv=>List.all_eq_true.1 (zpu p) v hv
 have hcell:∀ j v,cur.toList[j]? = some v->w.cell? ⟨g,j,none⟩=some v:=fun j v hj=>by simp [World.cell?,hg];simpa using hj
 have hgw:g < w.heap.size:=lt_of_block hg;have hvw:vb < w.heap.size:=hp.lt;obtain ⟨n,hn⟩:∃ n,l.length=n:=⟨_,rfl⟩;rw [hn] at hroom htake hi hl hDl ⊢;subst hroom;have hkk:(n:Int)+1 - (i:Int)=((n+1 - i:Nat):Int):=by omega
 have hik:i+(n+1 - i)=n+1:=by omega
 have hold:(Builtin.firstCells i0.size i (.slice (some ⟨g,0,none⟩) i n)).run Tryz.prog w.drew=.ok A.toArray w.drew:=by
  rw [hzs]
  exact run_firstCells_some w.drew 3 i ⟨g,0,none⟩ i n A hAl (fun j v hj=>by
   rw [zoS,Nat.zero_add]
   exact hcell j v (by rw [hcur,List.getElem?_append_left (List.getElem?_eq_some_iff.1 hj).1];exact hj))
 obtain ⟨G,hG⟩:∃ G,G=grownCap w (n+1) n 32:=⟨_,rfl⟩;obtain ⟨zc,hzc⟩:∃ zc,zc=(Value.agg #[.int .i64 0,.int .i64 0,.string { data:=#[] }]).cells:=⟨_,rfl⟩;obtain ⟨Z,hZ⟩:∃ Z,Z=(Builtin.zeroCells zc (n+1 - i)++Builtin.zeroCells zc (G - (n+1))).toList:=⟨_,rfl⟩;have hGn:n+1<=G:=by rw [hG];exact grownCap_ge w _ _ _
 have hGm:G<=maxLen:=by rw [hG];exact grownCap_le_maxLen w (n+1) n 32 (by unfold maxLen;omega)
 have hZl:Z.length=(G - i) * 3:=by
  rw [hZ];have hz3:zc.size=3:=by rw [hzc];rfl
  simp [Builtin.zeroCells,hz3];omega
 obtain ⟨ROW,hROW⟩:∃ R,R=A.toArray++Builtin.zeroCells zc (n+1 - i)++Builtin.zeroCells zc (G - (n+1)):=⟨_,rfl⟩
 have hrz:∀ ty,(Builtin.append_ #[24,3] ty #[.slice (some ⟨g,0,none⟩) i n,.int .i64 ((n+1 - i:Nat):Int)]).run Tryz.prog w=.ok (.slice (some ⟨w.heap.size,0,none⟩) (n+1) G) (w.drew.alloc (.cells ROW 32)):=fun ty=>by
  have h:=Lib.run_append_grow_zeros w 24 3 ty 32 i0 _ .i64 .i64 hT Tryz.underlying3 hi0 hz0 (some ⟨g,0,none⟩) i n A hold (n+1 - i) (by omega) (by omega) (by omega) (by omega) (by rw [hzb];omega) (by rw [hzb,hik];exact growslice_fits (by omega) (by omega));rw [hik,<- hG] at h;rw [h,hROW,hzc]
 have hRl:ROW.toList=A++Z:=by rw [hROW,hZ];simp
 have hRs:ROW.size=G * 3:=by
  have:=congrArg List.length hRl;rw [yA,hAl,hZl] at this;simp at this;omega
 obtain ⟨row1,hrow1⟩:∃ c,c=(ROW.toList.take (i * 3)++(p.cells++ROW.toList.drop (i * 3+p.cells.length))).toArray:=⟨_,rfl⟩;have hr1s:row1.size=G * 3:=by rw [hrow1];simp;omega
 obtain ⟨row2,hrow2⟩:∃ c,c=(row1.toList.take ((i+1) * 3)++(D++row1.toList.drop ((i+1) * 3+D.length))).toArray:=⟨_,rfl⟩
 have hfin:row2.toList=A++(p.cells++(D++Z.drop (3+D.length))):=by
  rw [hrow2,hrow1,hRl];simp only [List.toList_toArray];rw [<- hAl,show (i+1) * 3=A.length+3 by omega];exact zrF hpl (by omega)
 have hr2s:row2.size=G * 3:=by rw [hrow2];simp;omega
 obtain ⟨W1,hW1⟩:∃ W1,W1=(w.alloc (.cells ROW 32)).drew:=⟨_,rfl⟩;have hg1:W1.heap[w.heap.size]? = some (.cells ROW 32 (0,0)):=by rw [hW1];exact heap_alloc_new w _
 have hb1:Below w.heap.size w W1:=by rw [hW1];exact ((yR _ _).alloc (zr _) _).drew
 have hcpA:∀ (W:World),W.heap=W1.heap->∀ o1 d1,o1=i * 3->1<=d1->∀ ty dc,(Builtin.copy_ #[24,24] ty #[.slice (some ⟨w.heap.size,o1,none⟩) d1 dc,.slice (some ⟨vb,0,none⟩) 1 1]).run Tryz.prog W=.ok (goInt (1:Nat)) (W.setRow w.heap.size row1):=fun W hW o1 d1 e1 hd ty dc=>by
  subst e1;rw [hrow1]
  exact zpc W _ _ ty 32 hT hsz w.heap.size (i * 3) d1 dc ⟨vb,0,none⟩ 1 1 ROW 32 p.cells 1 (by rw [hW];exact hg1) (by simp only [Nat.min_def];split <;> omega) rfl
   (fun j v hj=>by
    rw [zoS,Nat.zero_add]
    have h0:OwnV W vb 32 p.cells:=by
     have:=hp.below hb1 (zr _);unfold OwnV at this ⊢;rw [hW];exact this
    exact h0.cell hj) (by omega) hP1
 have hcpB:∀ (W:World),W.heap=(W1.setRow w.heap.size row1).heap->∀ o1 o2 d1 s1,o1=(i+1) * 3->o2=i * 3->Nat.min s1 d1=n - i->∀ ty dc sc,(Builtin.copy_ #[24,24] ty #[.slice (some ⟨w.heap.size,o1,none⟩) d1 dc,.slice (some ⟨g,o2,none⟩) s1 sc]).run Tryz.prog W=.ok (goInt (n - i:Nat)) (W.setRow w.heap.size row2):=fun W hW o1 o2 d1 s1 e1 e2 e3 ty dc sc=>by
  subst e1;subst e2;rw [hrow2]
  exact zpc W _ _ ty 32 hT hsz w.heap.size ((i+1) * 3) d1 dc ⟨g,i * 3,none⟩ s1 sc row1 32 D (n - i) (by rw [hW];exact setRow_heap _ _ _ _ _ _ hg1) e3 hDl
   (fun j v hj=>by
    rw [zoS];have:=hcell (i * 3+j) v (by rw [hcur,List.getElem?_append_right (by omega),show i * 3+j - A.length=j by omega];exact hj);have hh:W.heap[g]? = w.heap[g]?:=by rw [hW,setRow_other _ _ _ _ (by omega)];exact hb1.block g hgw
    unfold World.cell? at this ⊢;simp only at this ⊢
    rw [hh];exact this) (by omega) hD1
 have hz1:¬ ((1:Int)=0):=by decide
 have hz2:¬ ((i:Int)=(n:Int)):=by omega
 have hw1:IntKind.i64.wrap ((i:Int)+1)=(i:Int)+1:=by rw [IntKind.wrap_i64];omega
 have hw2:IntKind.i64.wrap ((n:Int)+1)=(n:Int)+1:=by rw [IntKind.wrap_i64];omega
 have hw3:IntKind.i64.wrap ((n:Int)+1 - (i:Int))=(n:Int)+1 - (i:Int):=by rw [IntKind.wrap_i64];omega
 have hq1:(0:Int)<=(i:Int)+1:=by omega
 have hq2:¬ (n=i):=by omega
 have hq3:(i:Int)<=(n:Int)+1:=by omega
 have hq4:(i:Int)<=(n:Int):=by omega
 have hq5:((i:Int)+1).toNat=i+1:=by omega
 have hq6:(i:Int)+1<=(n:Int)+1:=by omega
 have hq7:(n:Int)+1 > (n:Int):=by omega
 have hq8:¬ (G=i):=by omega
 have hq9:¬ (G=i+1):=by omega
 have hG63:G<=9223372036854775807:=by unfold maxLen at hGm;omega
 have Hfin:=zh hfin;have Hput:=zh (zpv l i p);have HAl:=zh hAl;have HDl:=zh hDl;have HA:=zh hA;have HD:=zh hD;have HcpA:=zh hcpA;have HcpB:=zh hcpB;have Hrz:=zh hrz;have Hg1:=zh hg1;have Hb1:=zh hb1;have HW1:=zh hW1;have Hr2s:=zh hr2s;have Hr1s:=zh hr1s;have HGm:=zh hGm;have HGn:=zh hGn;have Hn:=zh hn;clear hfin hrow2 hrow1 hRl hRs hZ hzc hZl hROW hA hD hAD htake hAl hDl hcs hcell hD1 hP1 hsz hcpA hcpB hp hg hrz hold hg1 hb1 hW1 hr1s hr2s hGm hn hcur hG hik hi0 hz0 hzs hzb;have mixed:Tryz.prog.follows .mixedOrders=true:=by kernel_rfl
 go_enter Tryz.func58,Tryz.ntmps58
 go_upto_region 9 with (fail)
 go_upto_region 10 with (at_builtin;refine Lib.wpList_append_run _ rfl (.tmp 34) (.tmp 39) 24 3 rfl (.slice (some ⟨g,0,none⟩) i n) (.int .i64 ((n+1 - i:Nat):Int)) rfl rfl _ _ (Hrz.out _) ?_)
 rw [<- HW1.out];have hrunA:=HcpA.out W1 rfl (i * 3) (n+1 - i) rfl (by omega) 3 (G - i);obtain ⟨W2,hW2⟩:∃ W2,W2=W1.setRow w.heap.size row1:=⟨_,rfl⟩;have HW2:=zh hW2;clear hW2;go_upto_region 11 with (fail)
 rw [<- HW2.out];clear hrunA;go_region_law_o (refine zpm rfl (.tmp 50) (.tmp 53) 24 24 rfl (.slice (some ⟨w.heap.size,(i+1) * 3,none⟩) (n - i) (G - (i+1))) (.slice (some ⟨g,i * 3,none⟩) (n - i) (n - i)) (by simp [Act.eval,Act.put]) (by simp [Act.eval,Act.put]) (HcpB.out W2.drew (by rw [HW2.out];rfl) ((i+1) * 3) (i * 3) (n - i) (n - i) rfl rfl (by simp only [Nat.min_def];split <;> omega) 3 (G - (i+1)) (n - i)) ?_)
 go_wp2_with fail
 go_ret;have hgn:(W2.drew.setRow w.heap.size row2).heap[w.heap.size]? = some (.cells row2 32 (0,0)):=setRow_heap _ _ _ _ _ _ (by rw [HW2.out];exact setRow_heap _ _ _ _ _ _ Hg1.out);have hnl:=Hn.out;refine ⟨⟨_,rfl,?_⟩,?_,?_⟩
 ·refine ⟨by rw [znR,yA,yB,List.length_take,List.length_drop,hnl,Nat.min_eq_left (by omega)];congr 1;omega,.inr ⟨w.heap.size,G,row2,rfl,hBw,hgn,HGn.out,HGm.out,Hr2s.out,?_⟩⟩;rw [Hput.out,Hfin.out,<- HA.out,<- HD.out];rw [show A++(p.cells++(D++Z.drop (3+D.length)))=(A++(p.cells++D))++Z.drop (3+D.length) by simp [List.append_assoc]];rw [List.take_left'];rw [yA,yA,hpl,HAl.out,HDl.out];omega
 ·rw [HW2.out];exact zoG (zoG (Hb1.out.mono hBw) hBw _).drew hBw _
 ·rw [HW2.out];exact zra (zoG (zoG Hb1.out (zr _) _).drew (zr _) _) _
theorem zrG {w:World} {B:Nat} {l:List Pt} {v:Value} (hown:w.ownsRow B 32 3 v l.length (znD l)) (hBw:B<=w.heap.size) (hl:l.length<=1000) {i:Nat} (hi:i<=l.length) {p:Pt} {vb:Nat} (hp:OwnV w vb 32 p.cells) (hvb:v.ownBlock≠some vb) :
  Calls Tryz.prog 58 #[v,.int .i64 i,.slice (some ⟨vb,0,none⟩) 1 1] w fun e w'=>(∃ v',e=.returned v'/\w'.ownsRow B 32 3 v' (l.length+1) (znD (l.take i++p :: l.drop i)))/\Below B w w'/\w.grownBy w' v.ownBlock:=by
 rcases Nat.lt_or_ge i l.length with h | h
 ·obtain ⟨h1,h2⟩:=hown;rcases h2 with ⟨rfl,h0⟩ | ⟨g,cap,cur,rfl,hg,hh,hn,hm,hs,ht⟩
  ·omega
  ·rcases Nat.lt_or_ge l.length cap with hc | hc
   ·exact zqP hh hg hBw hm hc hs ht h hl hp (fun e=>hvb (by rw [e];rfl))
   ·exact zrb hh hg hBw (by omega) hs ht h hl hp
 ·obtain rfl:i=l.length:=by omega
  have:=zrE hown hBw hl hp;rw [zpv,List.take_length,List.drop_length,show znD []=[] from rfl,List.append_nil];exact this
end Go.Proofs.YtdhikpkecmaplaaGreatDoor

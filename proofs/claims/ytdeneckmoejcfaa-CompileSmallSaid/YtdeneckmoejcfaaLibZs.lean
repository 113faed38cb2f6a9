/- General facts on slices that are read, on memory that only grows, and on maps with integer keys: they are used by every later text; no condition. -/
import Derived.Test.YtdeneckmoejcfaaAl8
import Derived.WalkSpells
import Derived.WalkLawsBesides
import Derived.WalkSmall
import Derived.Maps.RangeWalk
import Derived.Maps.OwnOps
import Derived.Maps.OwnSet
import Derived.Maps.AppendAt
import Derived.Deep.RegionHeld3
import Derived.Deep.QuietTactic
import Derived.BigQuiet
import Derived.Test.YtdeneckmoejcfaaRows
import Derived.IntWalk
set_option linter.unusedSimpArgs false
set_option linter.unusedVariables false
set_option maxHeartbeats 1000000
namespace Go.Proofs.Ytdeneckmoejcfaa
open Go.RowKit

def Sl (w : World) (sz n : Nat) (cs : List Value) (v : Value) : Prop :=
  ∃ a cap, v = .slice a n cap /\ n <= cap /\ cap <= 9223372036854775807 /\ cs.length = n * sz /\
    (0 < n -> ∃ b off, a = some ⟨b, off, none⟩ /\ ∀ j, j < n * sz -> w.cell? ⟨b, off + j, none⟩ = cs[j]?)

theorem Sl.len {w sz n cs v} (h:Sl w sz n cs v):cs.length=n * sz:=by obtain ⟨a,cap,h1,h2,h3,h4,h5⟩:=h;exact h4

theorem Sl.below {w w':World} {sz n:Nat} {cs:List Value} {v:Value} {B:Nat} (hz:0 < sz) (h:Sl w sz n cs v) (hb:Below B w w') (hB:w.heap.size<=B):Sl w' sz n cs v:=by
 obtain ⟨a,cap,h1,h2,h3,h4,h5⟩:=h;refine ⟨a,cap,h1,h2,h3,h4,fun hn=>?_⟩;obtain ⟨b,off,e,hc⟩:=h5 hn;refine ⟨b,off,e,fun j hj=>?_⟩
 have hlt:b < w.heap.size:=by
  have h0:=hc 0 (Nat.mul_pos hn hz);have h1:cs[0]? = some (cs[0]'(by rw [h4];exact Nat.mul_pos hn hz)):=yD _;rw [h1] at h0;exact World.block_lt_of_cell? w _ h0
 rw [hb.cell (p:=⟨b,off+j,none⟩) (by show b < B;omega)];exact hc j hj

theorem Sl.at {w:World} {sz n:Nat} {cs:List Value} {a:Option Addr} {m cap:Nat} (hz:0 < sz) (h:Sl w sz n cs (.slice a m cap)) (hn:0 < n) :
  ∃ b off,a=some ⟨b,off,none⟩/\b < w.heap.size/\∀ j,j < n * sz->w.cell? ⟨b,off+j,none⟩=cs[j]?:=by
 obtain ⟨a',cap',h1,h2,h3,h4,h5⟩:=h;cases h1;obtain ⟨b,off,e,hc⟩:=h5 hn;refine ⟨b,off,e,?_,hc⟩;have h0:=hc 0 (Nat.mul_pos hn hz);have h1:cs[0]? = some (cs[0]'(by rw [h4];exact Nat.mul_pos hn hz)):=yD _;rw [h1] at h0;exact World.block_lt_of_cell? w _ h0

theorem Sl.form {w:World} {sz n:Nat} {cs:List Value} {v:Value} (h:Sl w sz n cs v):∃ a cap,v=.slice a n cap/\n<=cap/\cap<=9223372036854775807:=by
 obtain ⟨a,cap,h1,h2,h3,_⟩:=h;exact ⟨a,cap,h1,h2,h3⟩

theorem Sl.of_own {w:World} {base:Nat} {e:TypeId} {sz:Nat} {v:Value} {n:Nat} {xs:List Value} (h:w.ownsRow base e sz v n xs):Sl w sz n xs v:=by
 obtain ⟨h1,h2⟩:=h;rcases h2 with ⟨rfl,rfl⟩ | ⟨g,cap,cur,rfl,hg,hh,hn,hm,hs,ht⟩
 ·exact ⟨none,0,rfl,by omega,by omega,h1,by omega⟩
 ·refine ⟨some ⟨g,0,none⟩,cap,rfl,hn,by unfold maxLen at hm;omega,h1,fun _=>⟨g,0,rfl,fun j hj=>?_⟩⟩;have hc:=World.ownsRow.cells (w:=w) (base:=base) (e:=e) (size:=sz) (v:=.slice (some ⟨g,0,none⟩) n cap) (n:=n) (xs:=xs) ⟨h1,.inr ⟨g,cap,cur,rfl,hg,hh,hn,hm,hs,ht⟩⟩ (g:=g) rfl j (xs[j]'(by rw [h1];exact hj)) (yD _);rw [yD (by rw [h1];exact hj),<- hc];unfold Addr.add;split <;> simp_all

theorem zbu {w w':World} {base:Nat} {e:TypeId} {sz:Nat} {v:Value} {n:Nat} {xs:List Value} {B:Nat} (h:w.ownsRow base e sz v n xs) (hb:Below B w w') (hB:w.heap.size<=B):w'.ownsRow base e sz v n xs:=by
 obtain ⟨h1,h2⟩:=h;refine ⟨h1,?_⟩;rcases h2 with hn | ⟨g,cap,cur,rfl,hg,hh,rest⟩
 ·exact .inl hn
 ·exact .inr ⟨g,cap,cur,rfl,hg,by rw [hb.block g (by have:=lt_of_block hh;omega)];exact hh,rest⟩
theorem Below.keep {w w':World} (h:Below w.heap.size w w') {a:Addr} {v:Value} (hv:w.cell? a=some v):w'.cell? a=some v:=by
 rw [h.cell (World.block_lt_of_cell? w _ hv)];exact hv
def Ints (w : World) (xs : List Int) (v : Value) : Prop := Sl w 1 xs.length (xs.map (Value.int .i64)) v
theorem Ints.below {w w':World} {xs:List Int} {v:Value} {B:Nat} (h:Ints w xs v) (hb:Below B w w') (hB:w.heap.size<=B):Ints w' xs v:=Sl.below (by omega) h hb hB


theorem zeW {α β:Type} (f:α->List β) (sz:Nat) (hf:∀ x,(f x).length=sz) (l:List α):∀ (k:Nat) (h:k < l.length) (j:Nat),j < sz->(l.flatMap f)[k * sz+j]? = (f l[k])[j]?:=by
 induction l with
 | nil=>intro k h;simp at h
 | cons s l ih =>
  intro k h j hj
  cases k with
  | zero =>
   simp only [List.flatMap_cons,Nat.zero_mul,Nat.zero_add,List.getElem_cons_zero]
   rw [List.getElem?_append_left (by rw [hf];exact hj)]
  | succ k =>
   have:=ih k (by simpa using h) j hj;simp only [List.flatMap_cons,List.getElem_cons_succ];rw [List.getElem?_append_right (by rw [hf,Nat.succ_mul];omega),<- this];congr 1
   rw [hf,Nat.succ_mul];omega
theorem zpU {α β:Type} (f:α->List β) (sz:Nat) (hf:∀ x,(f x).length=sz) (l:List α):(l.flatMap f).length=l.length * sz:=by
 induction l with
 | nil=>simp
 | cons s l ih=>simp only [List.flatMap_cons,yA,yB,ih,hf,Nat.succ_mul];omega

theorem retb {a b:Bool} (h:a=b):Ending.returned (.bool a)=.returned (.bool b):=by rw [h]
/-! bits of 32 -/
def w32 (x : BitVec 32) : Int := x.toNat
theorem zpV (x:BitVec 32):IntKind.u32.wrap (x.toNat:Int)=w32 x:=by
 have:=x.isLt;simp [IntKind.wrap,IntKind.bits,IntKind.signed,w32];omega
theorem zpk (x:BitVec 32):BitVec.ofInt 32 (w32 x)=x:=by simp [w32]
theorem zoE (x y:BitVec 32):bits .or .u32 (w32 x) (w32 y)=w32 (x ||| y):=by
 show IntKind.u32.wrap ((BitVec.ofInt 32 (w32 x) ||| BitVec.ofInt 32 (w32 y)).toNat:Int)=_;rw [zpk,zpk,zpV]
theorem Below.of_grown {B:Nat} {w w':World} {row:Option Nat} (hg:w.grownBy w' row) (hB:B<=w.heap.size) (hr:∀ k,row=some k->B<=k):Below B w w':=(yR B w).grown hg hB hr
theorem zbm {P:Program} {ops:Array Oper} {rest:List Oper} {o:Oper} {a:Act} {Q:Exit->Act->World->Prop} (hgd:o.guard=none) (s x:Operand) (t:TypeId)
  (ho:o.op=.call { callee:=.builtin .append,args:=#[s,x],argTypes:=#[t,t] }) {w0:World} {arr:Array Value} {e':TypeId}
  {base:Nat} {e:TypeId} {size:Nat} {v:Value} {n:Nat} {xs:List Value} (hown:w0.ownsRow base e size v n xs) {z:Value} {bytes:Nat}
  (hi:(P.info? e).map (fun i=>(i.zero,i.size,i.bytes))=some (some z,size,bytes)) (ht:P.underlying t=some (.slice e)) (hzs:z.cells.size=size) (hsz:0 < size)
  (hs:a.eval s=v) (m c:Nat) (hx:a.eval x=.slice (some ⟨w0.heap.size,0,none⟩) m c) (hl:arr.size=m * size) (h1:arr.toList.all (fun u=>u.oneCell')=true)
  (h63:n+m<=maxLen) (hbytes:(n+m) * bytes<=140737488355328) (hbase:base<=w0.heap.size)
  (h:∀ v' w',w'.ownsRow base e size v' (n+m) (xs++arr.toList)->w0.grownBy w' v.ownBlock->Below base w0 w'->wpList P ops Q rest (a.put o.dst v') w'):wpList P ops Q (o :: rest) a (w0.alloc (.cells arr e')):=by
 obtain ⟨i,hi,hz0,hz1,hz2⟩:=info_parts hi;refine wpList_append_own _ hgd s x t ho base e i z size bytes ht hi hz0 hz1 hz2 hzs hsz v n xs hs (hown.alloc _) ⟨w0.heap.size,0,none⟩ m c arr.toList hx (by simpa using hl) ?_ (fun u hu=>List.all_eq_true.1 h1 u hu) h63 hbytes (by simp;omega) ?_
 ·intro j u hu;have:(⟨w0.heap.size,0,none⟩:Addr).add j=⟨w0.heap.size,j,none⟩:=by unfold Addr.add;split <;> simp_all
  rw [this,World.cell?_alloc_new];simpa using hu
 ·intro v' w' ho' hg _;have hg':w0.grownBy w' v.ownBlock:=⟨hg.os,hg.tape,hg.output,by have:=hg.size;simp at this;omega,fun k hk hne=>by rw [hg.block k (by simp;omega) hne];exact Below.heap_alloc w0 _ k hk⟩;exact h v' w' ho' hg' (Below.of_grown hg' hbase (fun k hk=>(hown.lt k hk).1))

theorem zbj {P:Program} {ops:Array Oper} {rest:List Oper} {o:Oper} {a:Act} {Q:Exit->Act->World->Prop} (hgd:o.guard=none) (s x:Operand) (t:TypeId)
  (ho:o.op=.call { callee:=.builtin .append,args:=#[s,x],argTypes:=#[t,t] }) {w0:World} {arr:Array Value} {e':TypeId}
  {base:Nat} {e:TypeId} {size:Nat} {v:Value} {n:Nat} {xs:List Value} (hown:w0.ownsRow base e size v n xs) {z:Value} {bytes:Nat}
  (hi:(P.info? e).map (fun i=>(i.zero,i.size,i.bytes))=some (some z,size,bytes)) (ht:P.underlying t=some (.slice e)) (hzs:z.cells.size=size) (hsz:0 < size)
  (hs:a.eval s=v) (m c:Nat) (hx:a.eval x=.slice (some ⟨w0.heap.size,0,none⟩) m c) (hl:arr.size=m * size) (h1:arr.toList.all (fun u=>u.oneCell')=true)
  (h63:n+m<=maxLen) (hbytes:(n+m) * bytes<=140737488355328) (hbase:base<=w0.heap.size)
  (h:∀ v' w',w'.ownsRow base e size v' (n+m) (xs++arr.toList)->w0.grownBy w' v.ownBlock->Below base w0 w'->(v'.ownBlock=v.ownBlock∨∃ g,v'.ownBlock=some g/\w0.heap.size<=g)->wpList P ops Q rest (a.put o.dst v') w'):wpList P ops Q (o :: rest) a (w0.alloc (.cells arr e')):=by
 obtain ⟨i,hi,hz0,hz1,hz2⟩:=info_parts hi;refine wpList_append_own_at _ hgd s x t ho base e i z size bytes ht hi hz0 hz1 hz2 hzs hsz v n xs hs (hown.alloc _) ⟨w0.heap.size,0,none⟩ m c arr.toList hx (by simpa using hl) ?_ (fun u hu=>List.all_eq_true.1 h1 u hu) h63 hbytes (by simp;omega) ?_
 ·intro j u hu;have:(⟨w0.heap.size,0,none⟩:Addr).add j=⟨w0.heap.size,j,none⟩:=by unfold Addr.add;split <;> simp_all
  rw [this,World.cell?_alloc_new];simpa using hu
 ·intro v' w' ho' hg _ hat;have hg':w0.grownBy w' v.ownBlock:=⟨hg.os,hg.tape,hg.output,by have:=hg.size;simp at this;omega,fun k hk hne=>by rw [hg.block k (by simp;omega) hne];exact Below.heap_alloc w0 _ k hk⟩;exact h v' w' ho' hg' (Below.of_grown hg' hbase (fun k hk=>(hown.lt k hk).1)) (hat.imp id fun e=>⟨_,e,by simp⟩)
theorem zfH {P:Program} {w:World} {t ty e:TypeId} {i:TypeInfo} (ht:P.underlying t=some (.slice e)) (hi:P.info? e=some i) (b a:Option Addr) {n cap c:Nat} (hn:n<=cap) :
  (Builtin.append_ #[t,t] ty #[.slice b n cap,.slice a 0 c]).run P w=.ok (.slice b n cap) w:=by
 cases b <;> cases a <;> simp [Builtin.append_,run_underlying ht,sizeOf,typeInfo,hi,Builtin.lenOf,hn,Builtin.firstCells,loadCells,loadCellsFrom,storeCells]
theorem zn0 {P:Program} {ops:Array Oper} {rest:List Oper} {o:Oper} {a:Act} {Q:Exit->Act->World->Prop} {w:World} (hgd:o.guard=none) (s x:Operand) (t:TypeId)
  (ho:o.op=.call { callee:=.builtin .append,args:=#[s,x],argTypes:=#[t,t] })
  {base:Nat} {e:TypeId} {size:Nat} {v:Value} {n:Nat} {xs:List Value} (hown:w.ownsRow base e size v n xs) {z:Value} {bytes:Nat}
  (hi:(P.info? e).map (fun i=>(i.zero,i.size,i.bytes))=some (some z,size,bytes)) (ht:P.underlying t=some (.slice e)) (hzs:z.cells.size=size) (hsz:0 < size)
  (hs:a.eval s=v) {m:Nat} {cs:List Value} {v2:Value} (hsl:Sl w size m cs v2) (hx:a.eval x=v2) (h1:cs.all (fun u=>u.oneCell')=true)
  (h63:n+m<=maxLen) (hbytes:(n+m) * bytes<=140737488355328) (hbase:base<=w.heap.size)
  (h:∀ v' w',w'.ownsRow base e size v' (n+m) (xs++cs)->w.grownBy w' v.ownBlock->Below base w w'->(v'.ownBlock=v.ownBlock∨∃ g,v'.ownBlock=some g/\w.heap.size<=g)->wpList P ops Q rest (a.put o.dst v') w'):wpList P ops Q (o :: rest) a w:=by
 obtain ⟨i,hi,hz0,hz1,hz2⟩:=info_parts hi;obtain ⟨ad,cap,rfl,hmc,hcm,hcs,hcell⟩:=hsl;by_cases hm:0 < m
 ·obtain ⟨b,off,rfl,hc⟩:=hcell hm;refine wpList_append_own_at _ hgd s x t ho base e i z size bytes ht hi hz0 hz1 hz2 hzs hsz v n xs hs hown ⟨b,off,none⟩ m cap cs hx hcs ?_ (fun u hu=>List.all_eq_true.1 h1 u hu) h63 hbytes hbase ?_
  ·intro j u hu
   have hj:j < m * size:=by
    rcases Nat.lt_or_ge j (m * size) with h | h
    ·exact h
    ·rw [List.getElem?_eq_none (by omega)] at hu;cases hu
   have:(⟨b,off,none⟩:Addr).add j=⟨b,off+j,none⟩:=by unfold Addr.add;split <;> simp_all
   rw [this,hc j hj];exact hu
  ·intro v' w' ho' hg _ hat;exact h v' w' ho' hg (Below.of_grown hg hbase (fun k hk=>(hown.lt k hk).1)) (hat.imp id fun e=>⟨_,e,zr _⟩)
 ·obtain rfl:m=0:=by omega
  obtain rfl:cs=[]:=List.eq_nil_of_length_eq_zero (by simpa using hcs)
  have hf:∃ b cap',v=.slice b n cap'/\n<=cap':=by
   rcases hown.2 with ⟨rfl,rfl⟩ | ⟨g,cap',cur,rfl,_,_,hn,_⟩
   ·exact ⟨none,0,rfl,zr _⟩
   ·exact ⟨_,_,rfl,hn⟩
  obtain ⟨b,cap',hv,hnc⟩:=hf;refine wpList_plain hgd fun K' hK'=>?_
  unfold Oper.wp execOp;have hr:=zfH (P:=P) (w:=w) (t:=t) (ty:=o.type) ht hi b ad (c:=cap) hnc;simp only [ho,resolve,invoke,builtin,Sem.run_bind,Sem.run_pure,Result.andThen_ok,List.map_toArray,List.map_cons,List.map_nil,hs,hx,hv,hr];refine hK' _ _ (h (.slice b n cap') w ?_ ⟨rfl,rfl,rfl,zr _,fun _ _ _=>rfl⟩ (yR _ _) (.inl (by rw [hv])));rw [<- hv];simpa using hown
theorem Sl.grown {w w':World} {sz n:Nat} {cs:List Value} {v:Value} {row:Option Nat} (h:Sl w sz n cs v) (hg:w.grownBy w' row) (hne:n=0∨v.ownBlock≠row):Sl w' sz n cs v:=by
 obtain ⟨a,cap,rfl,h2,h3,h4,h5⟩:=h;refine ⟨a,cap,rfl,h2,h3,h4,fun hn=>?_⟩;obtain ⟨b,off,rfl,hc⟩:=h5 hn;refine ⟨b,off,rfl,fun j hj=>?_⟩;have h1:cs[j]? = some (cs[j]'(by rw [h4];exact hj)):=yD _;rw [h1,hg.cell ((hc j hj).trans h1)];rcases hne with rfl | hne
 ·omega
 ·simpa [Value.ownBlock] using hne
theorem Sl.ownLt {w:World} {sz n:Nat} {cs:List Value} {v:Value} (hz:0 < sz) (h:Sl w sz n cs v) (hn:0 < n) {g:Nat} (hg:v.ownBlock=some g):g < w.heap.size:=by
 obtain ⟨a,cap,rfl,h2,h3,h4,h5⟩:=h;have h':Sl w sz n cs (.slice a n cap):=⟨a,cap,rfl,h2,h3,h4,h5⟩;obtain ⟨b,off,rfl,hlt,_⟩:=h'.at hz hn;simp [Value.ownBlock] at hg;omega
def RowsI (w : World) (row : Option Nat) (xss : List (List Int)) (vs : List Value) : Prop :=
  vs.length = xss.length /\ ∀ (i : Nat) (u : Value) (xs : List Int), vs[i]? = some u -> xss[i]? = some xs -> Ints w xs u /\ (xs.length = 0 ∨ u.ownBlock ≠ row)
theorem RowsI.nil (w:World) (row:Option Nat):RowsI w row [] []:=⟨rfl,fun i u xs h=>by simp at h⟩
theorem RowsI.below {w w':World} {row:Option Nat} {xss:List (List Int)} {vs:List Value} {B:Nat} (h:RowsI w row xss vs) (hb:Below B w w') (hB:w.heap.size<=B):RowsI w' row xss vs:=
 ⟨h.1,fun i u xs h1 h2=>⟨(h.2 i u xs h1 h2).1.below hb hB,(h.2 i u xs h1 h2).2⟩⟩
theorem RowsI.grown {w w':World} {row:Option Nat} {xss:List (List Int)} {vs:List Value} (h:RowsI w row xss vs) (hg:w.grownBy w' row):RowsI w' row xss vs:=
 ⟨h.1,fun i u xs h1 h2=>⟨Sl.grown (h.2 i u xs h1 h2).1 hg (h.2 i u xs h1 h2).2,(h.2 i u xs h1 h2).2⟩⟩
theorem RowsI.push {w:World} {row:Option Nat} {xss:List (List Int)} {vs:List Value} (h:RowsI w row xss vs) {u:Value} {xs:List Int} (hu:Ints w xs u) (hne:xs.length=0∨u.ownBlock≠row):RowsI w row (xss++[xs]) (vs++[u]):=by
 refine ⟨by simp [h.1],fun i u' xs' h1 h2=>?_⟩;by_cases hi:i < vs.length
 ·rw [List.getElem?_append_left hi] at h1;rw [List.getElem?_append_left (by rw [<- h.1];exact hi)] at h2;exact h.2 i u' xs' h1 h2
 ·rw [List.getElem?_append_right (by omega)] at h1;rw [List.getElem?_append_right (by rw [<- h.1];omega),<- h.1] at h2;obtain ⟨hlt,e1⟩:=List.getElem?_eq_some_iff.1 h1;obtain ⟨hlt2,e2⟩:=List.getElem?_eq_some_iff.1 h2;simp at e1 e2;subst e1;subst e2;exact ⟨hu,hne⟩
theorem Sl.nil (w:World) (sz:Nat):Sl w sz 0 [] (.slice none 0 0):=⟨none,0,rfl,by simp,by simp,by simp,by simp⟩
def OwnV (w : World) (g : Nat) (e : TypeId) (vs : List Value) : Prop := w.heap[g]? = some (.cells vs.toArray e (0, 0))
theorem OwnV.lt {w:World} {g:Nat} {e:TypeId} {vs:List Value} (h:OwnV w g e vs):g < w.heap.size:=lt_of_block h
theorem OwnV.cell {w:World} {g:Nat} {e:TypeId} {vs:List Value} (h:OwnV w g e vs) {i:Nat} {v:Value} (hi:vs[i]? = some v):w.cell? ⟨g,i,none⟩=some v:=by
 unfold OwnV at h;simp [World.cell?,h,hi]
theorem yc2 {w:World} {g:Nat} {y:TypeId} {a b:Value} {l:List Value} (z:OwnV w g y (a::b::l)):w.cell? ⟨g,0,none⟩=some a/\w.cell? ⟨g,1,none⟩=some b:=⟨z.cell rfl,z.cell rfl⟩
theorem yc3 {w:World} {g:Nat} {y:TypeId} {a b c:Value} {l:List Value} (z:OwnV w g y (a::b::c::l)):w.cell? ⟨g,0,none⟩=some a/\w.cell? ⟨g,1,none⟩=some b/\w.cell? ⟨g,2,none⟩=some c:=⟨z.cell rfl,z.cell rfl,z.cell rfl⟩
theorem yc4 {w:World} {g:Nat} {y:TypeId} {a b c d:Value} {l:List Value} (z:OwnV w g y (a::b::c::d::l)):w.cell? ⟨g,0,none⟩=some a/\w.cell? ⟨g,1,none⟩=some b/\w.cell? ⟨g,2,none⟩=some c/\w.cell? ⟨g,3,none⟩=some d:=⟨z.cell rfl,z.cell rfl,z.cell rfl,z.cell rfl⟩
theorem yc5 {w:World} {g:Nat} {y:TypeId} {a b c d e:Value} {l:List Value} (z:OwnV w g y (a::b::c::d::e::l)):w.cell? ⟨g,0,none⟩=some a/\w.cell? ⟨g,1,none⟩=some b/\w.cell? ⟨g,2,none⟩=some c/\w.cell? ⟨g,3,none⟩=some d/\w.cell? ⟨g,4,none⟩=some e:=⟨z.cell rfl,z.cell rfl,z.cell rfl,z.cell rfl,z.cell rfl⟩
theorem yc6 {w:World} {g:Nat} {y:TypeId} {a b c d e f:Value} {l:List Value} (z:OwnV w g y (a::b::c::d::e::f::l)):w.cell? ⟨g,0,none⟩=some a/\w.cell? ⟨g,1,none⟩=some b/\w.cell? ⟨g,2,none⟩=some c/\w.cell? ⟨g,3,none⟩=some d/\w.cell? ⟨g,4,none⟩=some e/\w.cell? ⟨g,5,none⟩=some f:=⟨z.cell rfl,z.cell rfl,z.cell rfl,z.cell rfl,z.cell rfl,z.cell rfl⟩
theorem yc7 {w:World} {g:Nat} {y:TypeId} {a b c d e f p:Value} {l:List Value} (z:OwnV w g y (a::b::c::d::e::f::p::l)):w.cell? ⟨g,0,none⟩=some a/\w.cell? ⟨g,1,none⟩=some b/\w.cell? ⟨g,2,none⟩=some c/\w.cell? ⟨g,3,none⟩=some d/\w.cell? ⟨g,4,none⟩=some e/\w.cell? ⟨g,5,none⟩=some f/\w.cell? ⟨g,6,none⟩=some p:=⟨z.cell rfl,z.cell rfl,z.cell rfl,z.cell rfl,z.cell rfl,z.cell rfl,z.cell rfl⟩
theorem yc8 {w:World} {g:Nat} {y:TypeId} {a b c d e f p q:Value} {l:List Value} (z:OwnV w g y (a::b::c::d::e::f::p::q::l)):w.cell? ⟨g,0,none⟩=some a/\w.cell? ⟨g,1,none⟩=some b/\w.cell? ⟨g,2,none⟩=some c/\w.cell? ⟨g,3,none⟩=some d/\w.cell? ⟨g,4,none⟩=some e/\w.cell? ⟨g,5,none⟩=some f/\w.cell? ⟨g,6,none⟩=some p/\w.cell? ⟨g,7,none⟩=some q:=⟨z.cell rfl,z.cell rfl,z.cell rfl,z.cell rfl,z.cell rfl,z.cell rfl,z.cell rfl,z.cell rfl⟩
theorem OwnV.free {w:World} {g:Nat} {e:TypeId} {vs:List Value} (h:OwnV w g e vs) (i:Nat):w.frozen? ⟨g,i,none⟩=false:=by
 unfold OwnV at h;simp [World.frozen?,h]
theorem OwnV.set {w:World} {g:Nat} {e:TypeId} {vs:List Value} (h:OwnV w g e vs) (i:Nat) (v:Value):OwnV (w.setCell ⟨g,i,none⟩ v) g e (vs.set i v):=by
 have hlt:=h.lt
 unfold OwnV at *
 have h':w.heap[g]=.cells vs.toArray e (0,0):=by simpa [Array.getElem?_eq_getElem hlt] using h
 unfold World.setCell;rw [Array.getElem?_eq_getElem (by simpa using hlt),Array.getElem_modify_self,h'];simp
theorem OwnV.below {w w':World} {g:Nat} {e:TypeId} {vs:List Value} {B:Nat} (h:OwnV w g e vs) (hb:Below B w w') (hB:w.heap.size<=B):OwnV w' g e vs:=by
 have:=h.lt
 unfold OwnV at *
 rw [hb.block g (by omega)];exact h
theorem OwnV.grown {w w':World} {g:Nat} {e:TypeId} {vs:List Value} {row:Option Nat} (h:OwnV w g e vs) (hg:w.grownBy w' row) (hne:some g≠row):OwnV w' g e vs:=by
 have:=h.lt
 unfold OwnV at *
 rw [hg.block g this hne];exact h
theorem OwnV.alloc {w:World} {g:Nat} {e:TypeId} {vs:List Value} (h:OwnV w g e vs) (o:Obj):OwnV (w.alloc o) g e vs:=h.grown (World.grownBy_alloc w o none) (by simp)
theorem OwnV.new (w:World) (e:TypeId) (vs:List Value):OwnV (w.alloc (.cells vs.toArray e)) w.heap.size e vs:=heap_alloc_new w _
theorem OwnV.own {w:World} {g:Nat} {e:TypeId} {vs:List Value} (h:OwnV w g e vs) {base n cap:Nat} (hb:base<=g) (hl:vs.length=n) (hc:cap=n) (hm:n<=maxLen):w.ownsRow base e 1 (.slice (some ⟨g,0,none⟩) n cap) n vs:=by
 subst hl;subst hc;exact ⟨by simp,.inr ⟨g,vs.length,vs.toArray,rfl,hb,h,zr _,hm,by simp,by simp⟩⟩
theorem made_one (z:Value) (n:Nat) (hz:z.cells = #[z]):madeCells z.cells n=(List.replicate n z).toArray:=by
 apply Array.ext
 ·simp [madeCells]
 ·intro i h1 h2;simp [madeCells,hz,Nat.mod_one]

def zaV (b : Int) : Bool := (decide (97 <= b) && decide (b <= 122)) || ((decide (65 <= b) && decide (b <= 90)) || b == 95)
def za9 (b : Int) : Bool := decide (48 <= b) && decide (b <= 57)
def zaH (b : UInt8) : Bool := zaV (b.toNat : Int)
def zaG (b : UInt8) : Bool := za9 (b.toNat : Int)
def zaf (b : UInt8) : Bool := zaH b || zaG b
structure Tok where
  kind : Int
  text : List UInt8
  n : Int
  line : Int
  col : Int
inductive LexR where
  | ok (l : List Tok)
  | err (line col code : Int)
def LexR.cons (t : Tok) : LexR -> LexR
  | .ok l => .ok (t :: l)
  | .err a b c => .err a b c
def zam : List UInt8 -> Bool -> Int -> Int -> List UInt8 × Int × Int
  | [], _, l, c => ([], l, c)
  | b :: r, cm, l, c =>
    if b.toNat = 10 then zam r false (l + 1) 1
    else if cm = true then zam r true l (c + 1)
    else if b.toNat = 32 ∨ b.toNat = 9 then zam r false l (c + 1)
    else if b.toNat = 35 then zam r true l (c + 1)
    else (b :: r, l, c)
def zbt : List Nat := [43, 45, 42, 47, 37, 60, 62, 33, 61, 40, 41, 91, 93, 123, 125, 44, 59]
def zbB : List (Nat × Nat) := [(61, 61), (33, 61), (60, 61), (62, 61), (38, 38), (124, 124)]
def zag : List UInt8 -> Nat
  | [] => 0
  | [a] => if a.toNat ∈ zbt then 1 else 0
  | a :: b :: _ => if (a.toNat, b.toNat) ∈ zbB then 2 else if a.toNat ∈ zbt then 1 else 0
def zaI : List UInt8 -> Int -> Option Int
  | [], n => some n
  | b :: r, n => if zaG b = false then none else if n > (9223372036854775807 - ((b.toNat : Int) - 48)) / 10 then none else zaI r (10 * n + ((b.toNat : Int) - 48))
def zaS (l : List UInt8) : Option Int := if 1 < l.length /\ (l.head?.map UInt8.toNat) = some 48 then none else zaI l 0
def zaK (go : List UInt8 -> Int -> Int -> LexR) : List UInt8 -> Int -> Int -> LexR
  | [], l, c => .ok [⟨4, [], 0, l, c⟩]
  | b :: r, l, c =>
    if zaH b = true then
      if 24 < ((b :: r).takeWhile zaf).length then .err l c 111 else (go ((b :: r).drop ((b :: r).takeWhile zaf).length) l (c + ((b :: r).takeWhile zaf).length)).cons ⟨1, (b :: r).takeWhile zaf, 0, l, c⟩
    else if zaG b = true then
      match zaS ((b :: r).takeWhile zaf) with
      | none => .err l c 112
      | some n => (go ((b :: r).drop ((b :: r).takeWhile zaf).length) l (c + ((b :: r).takeWhile zaf).length)).cons ⟨2, (b :: r).takeWhile zaf, n, l, c⟩
    else if zag (b :: r) = 0 then .err l c 110
    else (go ((b :: r).drop (zag (b :: r))) l (c + zag (b :: r))).cons ⟨3, (b :: r).take (zag (b :: r)), 0, l, c⟩
def zbr : Nat -> List UInt8 -> Int -> Int -> LexR
  | 0, _, l, c => .err l c 0
  | f + 1, bs, line, col => zaK (zbr f) (zam bs false line col).1 (zam bs false line col).2.1 (zam bs false line col).2.2
def LexR.pre (ts : List Tok) : LexR -> LexR
  | .ok l => .ok (ts ++ l)
  | .err a b c => .err a b c
theorem LexR.pre_cons (ts:List Tok) (t:Tok) (r:LexR):(r.cons t).pre ts=r.pre (ts++[t]):=by
 cases r <;> simp [LexR.cons,LexR.pre]
theorem LexR.pre_nil (r:LexR):r.pre []=r:=by cases r <;> rfl
theorem zdF {b:UInt8} {r:List UInt8} {cm:Bool} {l c:Int} (h:b.toNat=10):zam (b :: r) cm l c=zam r false (l+1) 1:=by rw [zam,yP h]
theorem zfj {b:UInt8} {r:List UInt8} {l c:Int} (h:b.toNat≠10):zam (b :: r) true l c=zam r true l (c+1):=by rw [zam,yN h,yP rfl]
theorem zdG {b:UInt8} {r:List UInt8} {l c:Int} (h:b.toNat=32∨b.toNat=9):zam (b :: r) false l c=zam r false l (c+1):=by
 rw [zam,yN (by omega),yN (by decide),yP h]
theorem zgK {b:UInt8} {r:List UInt8} {l c:Int} (h:b.toNat=35):zam (b :: r) false l c=zam r true l (c+1):=by
 rw [zam,yN (by omega),yN (by decide),yN (by omega),yP h]
theorem zcu {b:UInt8} {r:List UInt8} {l c:Int} (h1:b.toNat≠10) (h2:b.toNat≠32) (h3:b.toNat≠9) (h4:b.toNat≠35):zam (b :: r) false l c=(b :: r,l,c):=by
 rw [zam,yN h1,yN (by decide),yN (by omega),yN h4]
theorem zml {cm:Bool} {l c:Int}:zam [] cm l c=([],l,c):=rfl
theorem zfI {bs:List UInt8} {l c:Int} (h:bs=[]∨∃ b r,bs=b :: r/\b.toNat=10):zam bs true l c=zam bs false l c:=by
 rcases h with rfl | ⟨b,r,rfl,h⟩
 ·rfl
 ·rw [zdF h,zdF h]
theorem zhn {p:UInt8->Bool} {l:List UInt8} {n:Nat} (hn:n<=l.length) (h1:∀ (j:Nat) (h:j < l.length),j < n->p l[j]=true) (h2:∀ h:n < l.length,p l[n]=false):l.takeWhile p=l.take n:=by
 induction l generalizing n with
 | nil=>simp
 | cons b l ih =>
  cases n with
  | zero =>
   have:=h2 (by simp);simp at this
   simp [this]
  | succ n =>
   have hb:=h1 0 (by simp) (by omega);simp at hb;rw [List.takeWhile_cons,yP hb,List.take_succ_cons,ih (by simpa using hn) (fun j h hj=>by have:=h1 (j+1) (by simpa using h) (by omega);simpa using this) (fun h=>by have:=h2 (by simpa using h);simpa using this)]
def lexS (bs : List UInt8) : LexR := if 16384 < bs.length then .err 0 0 3 else zbr (bs.length + 1) bs 1 1
theorem zc1 (b:Int) (w:World):Calls Try.prog 73 #[.int .u8 b] w fun e w'=>e=.returned (.bool (zaV b))/\w=w':=by
 obtain ⟨p1,p2,p3,p4,p5,q1,q2,q3,q4,q5,hq⟩:∃ p1 p2 p3 p4 p5:Bool,decide (b >= 97)=p1/\decide (b<=122)=p2/\decide (b >= 65)=p3/\decide (b<=90)=p4/\(b == 95)=p5/\zaV b=((p1 && p2) || ((p3 && p4) || p5)):=⟨_,_,_,_,_,rfl,rfl,rfl,rfl,rfl,rfl⟩;rw [hq];clear hq;cases p1 <;> cases p2 <;> cases p3 <;> cases p4 <;> cases p5
 all_goals
  go_enter Try.func73,Try.ntmps73
  go_wp2;go_ret;exact ⟨rfl,rfl⟩
theorem zcP (b:Int) (w:World):Calls Try.prog 74 #[.int .u8 b] w fun e w'=>e=.returned (.bool (za9 b))/\w=w':=by
 obtain ⟨p1,p2,q1,q2,hq⟩:∃ p1 p2:Bool,decide (b >= 48)=p1/\decide (b<=57)=p2/\za9 b=(p1 && p2):=⟨_,_,rfl,rfl,rfl⟩;rw [hq];clear hq;cases p1 <;> cases p2
 all_goals
  go_enter Try.func74,Try.ntmps74
  go_wp2;go_ret;exact ⟨rfl,rfl⟩
theorem zfw {b:UInt8} (h:zaG b=true):48<=(b.toNat:Int)/\(b.toNat:Int)<=57:=by
 unfold zaG za9 at h;simpa [yC] using h
theorem zaq (s:ByteArray):s.data.toList.length=s.size:=Array.length_toList
theorem zdH (s:ByteArray) (k:Nat) (h:k < s.size):s.data.toList[k]'(by rw [zaq];exact h)=s[k]:=rfl
def numE : Option Int -> Ending
  | none => .returned (.tuple #[.int .i64 0, .bool false])
  | some n => .returned (.tuple #[.int .i64 n, .bool true])
theorem zeX {l:List UInt8} {k:Nat} (hk:k < l.length) (n:Int):zaI (l.drop k) n=if zaG l[k]=false then none else if n > (9223372036854775807 - ((l[k].toNat:Int) - 48)) / 10 then none else zaI (l.drop (k+1)) (10 * n+((l[k].toNat:Int) - 48)):=by
 rw [List.drop_eq_getElem_cons hk,zaI]
theorem zg2 (s:ByteArray) (w:World) (hs:s.size<=9223372036854775807) :
  Calls Try.prog 75 #[.string s] w fun e w'=>e=numE (zaS s.data.toList)/\w=w':=by
 have Hlen:=zh (zaq s);have Hget:Hid (∀ (k:Nat) (h:k < s.size),s.data.toList[k]'(by rw [zaq];exact h)=s[k]):=zh (zdH s);by_cases h1:1 < s.size
 ·have h0:0 < s.size:=by omega
  have hh:s.data.toList.head?.map UInt8.toNat=some s[0].toNat:=by
   have e:=Hget.out 0 h0;rw [List.head?_eq_getElem?,yD (by rw [Hlen.out];exact h0),e];rfl
  have h1':(1:Int) < s.size:=by omega
  obtain ⟨q,hq,hq2⟩:∃ q:Bool,((s[0].toNat:Int) == 48)=q/\(q=true ↔ s[0].toNat=48):=⟨_,rfl,by rw [beq_iff_eq];omega⟩
  have Hr:Hid (zaS s.data.toList=if q=true then none else zaI s.data.toList 0):=zh (by
   unfold zaS;rw [hh,Hlen.out];by_cases e:s[0].toNat=48
   ·rw [yP ⟨h1,by rw [e]⟩,yP (hq2.2 e)]
   ·rw [yN (fun h=>e (by simpa using h.2)),yN (fun h=>e (hq2.1 h))])
  clear hh hq2;cases q
  ·have HR:Hid (zaS s.data.toList=zaI s.data.toList 0):=zh (by rw [Hr.out,yN (by simp)]);go_enter Try.func75,Try.ntmps75
   go_wp2;go_loopw [2,3,4,5,6,15,16,17,18,19,20,21,22,23,24,25,26,27,28,29,30,31,32,33,34,35,36,37,38,39] (fun _ _ t4 t5 _ _ _ _ _ _ _ _ _ _ _ _ _ _ _ _ _ _ _ _ _ _ _ _ _ _ wr=>∃ (k:Nat) (n:Int),k<=s.size/\t5=.int .i64 k/\t4=.int .i64 n/\0<=n/\n<=9223372036854775807/\Hid (zaI s.data.toList 0=zaI (s.data.toList.drop k) n)/\wr=w) (fun _ _ _ t5 _ _ _ _ _ _ _ _ _ _ _ _ _ _ _ _ _ _ _ _ _ _ _ _ _ _ _=>s.size - (intOf t5).toNat)
   case atStart=>exact ⟨0,0,by omega,rfl,rfl,by omega,by omega,zh rfl,rfl⟩
   case round =>
    obtain ⟨k,n,hk,rfl,rfl,hn0,hn1,Hv,rfl⟩:=hrel;by_cases hlt:k < s.size
    ·have Hst:=zh (zeX (l:=s.data.toList) (k:=k) (by rw [zaq];exact hlt) n);have Hdr:Hid (zaG s[k]=true->48<=(s[k].toNat:Int)/\(s[k].toNat:Int)<=57):=zh zfw;rw [zdH s k hlt] at Hst;have HD:=zh (zcP (s[k].toNat:Int) wr);have Hdb:Hid (zaG s[k]=za9 (s[k].toNat:Int)):=zh rfl;have hb1:s[k].toNat<=255:=by have:=s[k].toNat_lt;omega
     obtain ⟨q,hq⟩:∃ q:Bool,za9 (s[k].toNat:Int)=q:=⟨_,rfl⟩;rw [hq] at HD Hdb;clear hq;cases q
     ·go_wp2_with (go_at_call 74;refine HD.out.mono ?_;rintro e w2 ⟨rfl,rfl⟩)
      go_ret2;refine ⟨?_,rfl⟩;have e:zaS s.data.toList=none:=by rw [HR.out,Hv.out,Hst.out,yP Hdb.out]
      rw [e];rfl
     ·obtain ⟨d1,d2⟩:=Hdr.out Hdb.out
      generalize hx:s[k]=x at *
      obtain ⟨d,hd⟩:∃ d:Int,(x.toNat:Int) - 48=d:=⟨_,rfl⟩;rw [hd] at Hst;have hd0:0<=d:=by omega
      have hd9:d<=9:=by omega
      go_wp2_with (go_at_call 74;refine HD.out.mono ?_;rintro e w2 ⟨rfl,rfl⟩)
      ·have h:(9223372036854775807 - d) / 10 < n:=by assumption
       have Hh:=zh h;clear h;go_ret2;refine ⟨?_,rfl⟩
       have e:zaS s.data.toList=none:=by
        rw [HR.out,Hv.out,Hst.out,yN (by rw [Hdb.out];simp),yP (show n > _ from Hh.out)]
       rw [e];rfl
      ·have h:n<=(9223372036854775807 - d) / 10:=by assumption
       have h2:10 * n+d<=9223372036854775807:=by omega
       have h3:0<=10 * n+d:=by omega
       have h4:¬ n > (9223372036854775807 - d) / 10:=by omega
       have H2:=zh h2;have H3:=zh h3;have H4:=zh h4;clear h h2 h3 h4;go_roundw
       case rel=>exact ⟨k+1,10 * n+d,by omega,by go_num,rfl,H3.out,H2.out,zh (by rw [Hv.out,Hst.out,yN (by rw [Hdb.out];simp),yN H4.out]),by first | rfl | trivial⟩
       case measure=>simp [intOf];omega
    ·obtain rfl:k=s.size:=by omega
     have hlt1:¬ (s.size:Int) < s.size:=by omega
     go_wp2;go_ret2;refine ⟨?_,rfl⟩
     have e:zaS s.data.toList=some n:=by
      rw [HR.out,Hv.out,List.drop_of_length_le (by rw [zaq];omega),zaI]
     rw [e];rfl
  ·go_enter Try.func75,Try.ntmps75
   go_wp2;go_ret2;refine ⟨?_,rfl⟩;have e:zaS s.data.toList=none:=by rw [Hr.out];simp
   rw [e];rfl
 ·have h1':¬ (1:Int) < s.size:=by omega
  have HR:Hid (zaS s.data.toList=zaI s.data.toList 0):=zh (by rw [zaS,yN (fun h=>by rw [zaq] at h;exact h1 h.1)]);go_enter Try.func75,Try.ntmps75
  go_wp2;go_loopw [2,3,4,5,6,15,16,17,18,19,20,21,22,23,24,25,26,27,28,29,30,31,32,33,34,35,36,37,38,39] (fun _ _ t4 t5 _ _ _ _ _ _ _ _ _ _ _ _ _ _ _ _ _ _ _ _ _ _ _ _ _ _ wr=>∃ (k:Nat) (n:Int),k<=s.size/\t5=.int .i64 k/\t4=.int .i64 n/\0<=n/\n<=9223372036854775807/\Hid (zaI s.data.toList 0=zaI (s.data.toList.drop k) n)/\wr=w) (fun _ _ _ t5 _ _ _ _ _ _ _ _ _ _ _ _ _ _ _ _ _ _ _ _ _ _ _ _ _ _ _=>s.size - (intOf t5).toNat)
  case atStart=>exact ⟨0,0,by omega,rfl,rfl,by omega,by omega,zh rfl,rfl⟩
  case round =>
   obtain ⟨k,n,hk,rfl,rfl,hn0,hn1,Hv,rfl⟩:=hrel;by_cases hlt:k < s.size
   ·have Hst:=zh (zeX (l:=s.data.toList) (k:=k) (by rw [zaq];exact hlt) n);have Hdr:Hid (zaG s[k]=true->48<=(s[k].toNat:Int)/\(s[k].toNat:Int)<=57):=zh zfw;rw [zdH s k hlt] at Hst;have HD:=zh (zcP (s[k].toNat:Int) wr);have Hdb:Hid (zaG s[k]=za9 (s[k].toNat:Int)):=zh rfl;have hb1:s[k].toNat<=255:=by have:=s[k].toNat_lt;omega
    obtain ⟨q,hq⟩:∃ q:Bool,za9 (s[k].toNat:Int)=q:=⟨_,rfl⟩;rw [hq] at HD Hdb;clear hq;cases q
    ·go_wp2_with (go_at_call 74;refine HD.out.mono ?_;rintro e w2 ⟨rfl,rfl⟩)
     go_ret2;refine ⟨?_,rfl⟩;have e:zaS s.data.toList=none:=by rw [HR.out,Hv.out,Hst.out,yP Hdb.out]
     rw [e];rfl
    ·obtain ⟨d1,d2⟩:=Hdr.out Hdb.out
     generalize hx:s[k]=x at *
     obtain ⟨d,hd⟩:∃ d:Int,(x.toNat:Int) - 48=d:=⟨_,rfl⟩;rw [hd] at Hst;have hd0:0<=d:=by omega
     have hd9:d<=9:=by omega
     go_wp2_with (go_at_call 74;refine HD.out.mono ?_;rintro e w2 ⟨rfl,rfl⟩)
     ·have h:(9223372036854775807 - d) / 10 < n:=by assumption
      have Hh:=zh h;clear h;go_ret2;refine ⟨?_,rfl⟩
      have e:zaS s.data.toList=none:=by
       rw [HR.out,Hv.out,Hst.out,yN (by rw [Hdb.out];simp),yP (show n > _ from Hh.out)]
      rw [e];rfl
     ·have h:n<=(9223372036854775807 - d) / 10:=by assumption
      have h2:10 * n+d<=9223372036854775807:=by omega
      have h3:0<=10 * n+d:=by omega
      have h4:¬ n > (9223372036854775807 - d) / 10:=by omega
      have H2:=zh h2;have H3:=zh h3;have H4:=zh h4;clear h h2 h3 h4;go_roundw
      case rel=>exact ⟨k+1,10 * n+d,by omega,by go_num,rfl,H3.out,H2.out,zh (by rw [Hv.out,Hst.out,yN (by rw [Hdb.out];simp),yN H4.out]),by first | rfl | trivial⟩
      case measure=>simp [intOf];omega
   ·obtain rfl:k=s.size:=by omega
    have hlt1:¬ (s.size:Int) < s.size:=by omega
    go_wp2;go_ret2;refine ⟨?_,rfl⟩
    have e:zaS s.data.toList=some n:=by
     rw [HR.out,Hv.out,List.drop_of_length_le (by rw [zaq];omega),zaI]
    rw [e];rfl
end Go.Proofs.Ytdeneckmoejcfaa

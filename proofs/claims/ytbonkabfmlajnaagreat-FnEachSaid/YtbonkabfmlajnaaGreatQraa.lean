/- Data as cells, readings, own memory. -/
import Derived.Lib.Hide
import Derived.BigQuiet
import Derived.WalkSpells
import Derived.Test.YtbonkabfmlajnaaGreatChecked
namespace Go.Proofs.YtbonkabfmlajnaaGreat
open Go.RowKit
instance:Coe World Nat:=⟨fun w=>w.heap.size⟩
instance:Coe Int Value:=⟨fun n=> .int .i64 n⟩
instance:Coe Nat Value:=⟨fun n=> .int .i64 n⟩
instance:Coe Bool Value:=⟨fun b=> .bool b⟩
instance:Coe ByteArray Value:=⟨fun s=> .string s⟩
structure Zn where
structure Zi where
def zN:Zn:=⟨⟩
def zI:Zi:=⟨⟩
instance:Coe Zn Value:=⟨fun _=> .slice none 0 0⟩
instance:Coe Zi Value:=⟨fun _=> .int .i64 0⟩
theorem hH {p:Prop}(h:p):Hid p:=h
theorem lq {a b c:Nat}(h:a<b)(k:b<=c):a<c:=by omega
theorem lr (n:Nat):n<=n:=by omega
theorem lz (n:Nat):0<=n:=by omega
theorem ls (n:Nat):n<n.succ:=by omega
theorem lm {α:Type _}{a:α}{s t:List α}:a∈s++t↔a∈s\/a∈t:=_root_.List.mem_append
theorem ln {α:Type _}{s t:List α}:(s++t).Nodup↔s.Nodup/\t.Nodup/\∀a,a∈s->∀b,b∈t->a≠b:=_root_.List.nodup_append
theorem lg {α:Type _}{i:Nat}{a:α}{l:List α}:l[i]? =some a↔∃h:i<l.length,l[i]=a:=_root_.List.getElem?_eq_some_iff
theorem lk {w:World}{a:Addr}{u:Value}(h:w.cell? a=some u):a.block<w.heap.size:=_root_.Go.World.block_lt_of_cell? w a h
theorem lu {α:Type _}{a:α}{s:List α}(t:List α)(h:a∈s):a∈s++t:=_root_.List.mem_append_left t h
theorem lw {α:Type _}{b:α}(s:List α){t:List α}(h:b∈t):b∈s++t:=_root_.List.mem_append_right s h
theorem lf (B:Nat)(w:World):Below B w w:=_root_.Go.RowKit.Below.refl B w
abbrev Pos:=Nat×Nat
def At (w:World)(b o:Nat)(cs:List Value):Prop:=∀j v,cs[j]? =some v->w.cell? ⟨b,o+j,none⟩=some v
def Same (w w':World)(fp:List Pos):Prop:=∀p∈fp,w'.cell? ⟨p.1,p.2,none⟩=w.cell? ⟨p.1,p.2,none⟩
def Live (w:World)(fp:List Pos):Prop:=∀p∈fp,(w.cell? ⟨p.1,p.2,none⟩).isSome=true
class GoT (α:Type) where
 n:Nat
 rd:Nat->World->List Value->α->List Pos->Prop
 pos:0<n
 len:∀{M:Nat} {w:World} {cs:List Value} {x:α} {fp:List Pos},rd M w cs x fp->cs.length=n
 one:∀{M:Nat} {w:World} {cs:List Value} {x:α} {fp:List Pos},rd M w cs x fp->∀u∈cs,u.oneCell'=true
 live:∀{M:Nat} {w:World} {cs:List Value} {x:α} {fp:List Pos},rd M w cs x fp->Live w fp
 keep:∀{M:Nat} {w w':World} {cs:List Value} {x:α} {fp:List Pos},rd M w cs x fp->Same w w' fp->rd M w' cs x fp
theorem At.keep {w u:World}{b o:Nat}{n:List Value}(h:At w b o n)(z:∀j<n.length,u.cell? ⟨b,o+j,none⟩=w.cell? ⟨b,o+j,none⟩):At u b o n:=by
 intro j v q;have p:j<n.length:=(lg.1 q).1;rw[z j p];exact h j v q
theorem At.nil (w:World)(b o:Nat):At w b o []:=by intro j v h;simp at h
theorem At.append {w:World}{b o:Nat}{c1 c2:List Value}:At w b o (c1++c2)↔At w b o c1/\At w b (o+c1.length) c2:=by
 constructor
 ·intro h;refine⟨fun j v n=> ?_,fun j v n=> ?_⟩
  ·have p:j<c1.length:=(lg.1 n).1;exact h j v (by rw[List.getElem?_append_left p];exact n)
  ·have:=h (c1.length+j) v (by rw[List.getElem?_append_right (by omega)];simpa using n)
   rwa[<-Nat.add_assoc]at this
 ·rintro⟨q,u⟩ j v n;by_cases p:j<c1.length
  ·exact q j v (by rwa[List.getElem?_append_left p]at n)
  ·rw[List.getElem?_append_right (by omega)]at n
   have:=u _ v n;rwa[show o+c1.length+(j-c1.length)=o+j by omega]at this
theorem At.cell {w:World}{b o:Nat}{n:List Value}(h:At w b o n)(j:Nat){v:Value}(p:n[j]? =some v):w.cell? ⟨b,o+j,none⟩=some v:=h j v p
theorem Same.refl (w:World)(fp:List Pos):Same w w fp:=fun _ _=>rfl
theorem Same.trans {a b c:World}{fp:List Pos}(h:Same a b fp)(k:Same b c fp):Same a c fp:=fun p j=>(k p j).trans (h p j)
theorem Same.sub {w j:World}{f1 f2:List Pos}(h:Same w j f2)(q:∀p∈f1,p∈f2):Same w j f1:=fun p n=>h p (q p n)
theorem Same.append {w n:World}{f1 f2:List Pos}:Same w n (f1++f2)↔Same w n f1/\Same w n f2:=by
 simp only[Same,lm];exact⟨fun h=>⟨fun p j=>h p (.inl j),fun p j=>h p (.inr j)⟩,fun h p j=>j.elim (h.1 p) (h.2 p)⟩
theorem Live.append {w:World}{f1 f2:List Pos}:Live w (f1++f2)↔Live w f1/\Live w f2:=by
 simp only[Live,lm];exact⟨fun h=>⟨fun p j=>h p (.inl j),fun p j=>h p (.inr j)⟩,fun h p j=>j.elim (h.1 p) (h.2 p)⟩
theorem Live.nil (w:World):Live w []:=fun _ h=>by cases h
theorem Live.lt {w:World}{fp:List Pos}(h:Live w fp):∀p∈fp,p.1<w.heap.size:=by
 intro p j;have:=h p j;rw[Option.isSome_iff_exists]at this;obtain⟨v,n⟩:=this;exact lk (w:=w) (a:=⟨p.1,p.2,none⟩) n
theorem Live.same_below {w j:World}{B:Nat}{fp:List Pos}(hb:Below B w j)(h:∀p∈fp,p.1<B):Same w j fp:=
 fun p n=>hb.cell (p:=⟨p.1,p.2,none⟩) (h p n)
def Els {α:Type}[GoT α](M:Nat)(w:World):List Value->List α->List Pos->Prop
 |cs,[],fp=>cs=[]/\fp=[]
 |cs,x::xs,fp=>∃c1 c2 f1 f2,cs=c1++c2/\GoT.rd M w c1 x f1/\Els M w c2 xs f2/\fp=f1++f2
section
variable {α:Type} [GoT α] {M:Nat} {w w':World}
theorem Els.nil:Els (α:=α) M w [] [] []:=⟨rfl,rfl⟩
theorem Els.length:∀{l:List α} {j:List Value} {fp:List Pos},Els M w j l fp->j.length=l.length*GoT.n α
 |[],_,_,h=>by rw[h.1];simp
 |x::z,_,_,⟨c1,c2,f1,f2,u,p,q,_⟩=>by
  rw[u,List.length_append,GoT.len p,Els.length q,List.length_cons,Nat.add_mul];omega
theorem Els.one:∀{l:List α} {n:List Value} {fp:List Pos},Els M w n l fp->∀u∈n,u.oneCell'=true
 |[],_,_,h=>by rw[h.1];intro u j;cases j
 |x::B,_,_,⟨c1,c2,f1,f2,z,p,q,_⟩=>by
  rw[z];intro u j;rcases lm.1 j with j|j
  ·exact GoT.one p u j
  ·exact Els.one q u j
theorem Els.live:∀{l:List α} {j:List Value} {fp:List Pos},Els M w j l fp->Live w fp
 |[],_,_,h=>by rw[h.2];exact Live.nil w
 |x::u,_,_,⟨c1,c2,f1,f2,_,n,p,q⟩=>by rw[q];exact Live.append.2 ⟨GoT.live n,Els.live p⟩
theorem Els.keep:∀{l:List α} {j:List Value} {fp:List Pos},Els M w j l fp->Same w w' fp->Els M w' j l fp
 |[],_,_,h,_=>h
 |x::I,_,_,⟨c1,c2,f1,f2,z,q,u,n⟩,p=>by
  rw[n]at p;obtain⟨B,D⟩:=Same.append.1 p;exact⟨c1,c2,f1,f2,z,GoT.keep q B,Els.keep u D,n⟩
theorem Els.append:∀{J u:List α} {j:List Value} {fp:List Pos},
 Els M w j (J++u) fp↔∃c1 c2 f1 f2,j=c1++c2/\Els M w c1 J f1/\Els M w c2 u f2/\fp=f1++f2
 |[],u,j,fp=>by
  constructor
  ·intro h;exact⟨[],j,[],fp,rfl,Els.nil,h,rfl⟩
  ·rintro⟨c1,c2,f1,f2,rfl,⟨rfl,rfl⟩,h,rfl⟩;exact h
 |x::Y,u,j,fp=>by
  constructor
  ·rintro⟨c1,c2,f1,f2,rfl,q,Q,rfl⟩;obtain⟨n,N,z,p,rfl,B,D,rfl⟩:=Els.append.1 Q;exact⟨c1++n,N,f1++z,p,by simp,⟨c1,n,f1,z,rfl,q,B,rfl⟩,D,by simp⟩
  ·rintro⟨U,I,z,p,rfl,⟨c1,n,f1,q,rfl,B,D,rfl⟩,R,rfl⟩;exact⟨c1,n++I,f1,q++p,by simp,B,Els.append.2 ⟨n,I,q,p,rfl,D,R,rfl⟩,by simp⟩
theorem Els.single {x:α}{j:List Value}{fp:List Pos}(h:GoT.rd M w j x fp):Els M w j [x] fp:=⟨j,[],fp,[],by simp,h,Els.nil,by simp⟩
theorem Els.snoc {l:List α}{x:α}{c1 c2:List Value}{f1 f2:List Pos}(h:Els M w c1 l f1)(j:GoT.rd M w c2 x f2):Els M w (c1++c2) (l++[x]) (f1++f2):=
 Els.append.2 ⟨c1,c2,f1,f2,rfl,h,Els.single j,rfl⟩
theorem Els.at_ {l:List α}{p:List Value}{fp:List Pos}(h:Els M w p l fp)(k:Nat){x:α}(u:l[k]? =some x):
 ∃c1 c2 c3 f1 f2 f3,p=c1++c2++c3/\fp=f1++f2++f3/\c1.length=k*GoT.n α/\Els M w c1 (l.take k) f1/\GoT.rd M w c2 x f2/\Els M w c3 (l.drop (k+1)) f3:=by
 have J:k<l.length:=(lg.1 u).1;have j:l=l.take k++(x::l.drop (k+1)):=by
  have:l[k]=x:=(lg.1 u).2;rw[<-this,List.getElem_cons_drop,List.take_append_drop]
 rw[j]at h;obtain⟨c1,c2,f1,f2,rfl,q,⟨z,B,D,I,rfl,N,Q,rfl⟩,rfl⟩:=Els.append.1 h;refine⟨c1,z,B,f1,D,I,by simp,by simp,?_,q,N,Q⟩
 rw[Els.length q,List.length_take,Nat.min_eq_left (by omega)]
end
def own (b o m:Nat):List Pos:=(List.range m).map fun j=>(b,o+j)
theorem Kaa {b o m:Nat}{p:Pos}:p∈own b o m↔p.1=b/\o<=p.2/\p.2<o+m:=by
 obtain⟨x,y⟩:=p;simp only[own,List.mem_map,List.mem_range,Prod.mk.injEq];constructor
 ·rintro⟨j,u,rfl,rfl⟩;exact⟨rfl,by omega,by omega⟩
 ·rintro⟨rfl,n,q⟩;exact⟨y-o,by omega,rfl,by omega⟩
theorem jau (b o m:Nat):(own b o m).Nodup:=by
 unfold own;refine List.Pairwise.map _ ?_ List.nodup_range;intro a b h e;simp only[Prod.mk.injEq]at e;omega
theorem vaS (b o m k:Nat):own b o (m+k)=own b o m++own b (o+m) k:=by
 simp only[own,List.range_add,List.map_append,List.map_map];congr 1
 apply List.map_congr_left;intro j _;simp[Nat.add_assoc]
def Sl {α:Type}[GoT α](M:Nat)(w:World)(v:Value)(l:List α)(fp:List Pos):Prop:=
 (∃ao,v= .slice ao 0 0/\l=[]/\fp=[])\/
 ∃b o cap cs fs,v= .slice (some ⟨b,o,none⟩) l.length cap/\l.length<=cap/\cap<=maxLen/\l.length<=M/\At w b o cs/\Els M w cs l fs/\Live w (own b o (cap*GoT.n α))/\
  fp=own b o (cap*GoT.n α)++fs
section
variable {α:Type} [GoT α] {M:Nat} {w w':World} {v:Value} {l:List α} {fp:List Pos}
theorem Sl.one (h:Sl M w v l fp):v.oneCell'=true:=by
 rcases h with⟨j,rfl,_⟩|⟨b,o,cap,n,fs,rfl,_⟩<;>rfl
theorem Sl.live (h:Sl M w v l fp):Live w fp:=by
 rcases h with⟨_,_,_,rfl⟩|⟨b,o,cap,p,fs,_,_,_,_,_,j,n,rfl⟩
 ·exact Live.nil w
 ·exact Live.append.2 ⟨n,Els.live j⟩
theorem Live.keep {fp:List Pos}(h:Live w fp)(n:Same w w' fp):Live w' fp:=fun p j=>by rw[n p j];exact h p j
theorem Sl.keep (h:Sl M w v l fp)(Q:Same w w' fp):Sl M w' v l fp:=by
 rcases h with h|⟨b,o,cap,z,fs,rfl,p,B,D,I,q,N,rfl⟩
 ·exact .inl h
 ·obtain⟨u,R⟩:=Same.append.1 Q;refine .inr ⟨b,o,cap,z,fs,rfl,p,B,D,I.keep (fun j J=>u (b,o+j) (Kaa.2 ⟨rfl,by simp,?_⟩)),q.keep R,N.keep u,rfl⟩
  rw[Els.length q]at J;have:=Nat.mul_le_mul_right (GoT.n α) p;show o+j<_;omega
theorem Sl.nil:Sl (α:=α) M w (.slice none 0 0) [] []:= .inl ⟨_,rfl,rfl,rfl⟩
theorem Sl.len (h:Sl M w v l fp){P:Program}{T E:TypeId}(n:P.underlying T=some (.slice E))(j:World)(ty:TypeId):
 (Builtin.len_ #[T] ty #[v]).run P j= .ok (.int .i64 l.length) j:=by
 rcases h with⟨p,rfl,rfl,_⟩|⟨b,o,cap,q,fs,rfl,_⟩<;>simp[Builtin.len_,run_underlying n,goInt]
theorem Sl.le (h:Sl M w v l fp):l.length<=maxLen:=by
 rcases h with⟨j,rfl,rfl,_⟩|⟨b,o,cap,n,fs,rfl,p,q,_⟩
 ·simp
 ·omega
theorem Sl.leM (h:Sl M w v l fp):l.length<=M:=by
 rcases h with⟨n,rfl,rfl,_⟩|⟨b,o,cap,p,fs,rfl,q,u,j,_⟩
 ·simp
 ·exact j
theorem Sl.idx (h:Sl M w v l fp){P:Program}{T E:TypeId}(D:P.underlying T=some (.slice E))(Q:∀j,(sizeOf E).run P j= .ok (GoT.n α) j)(k:Nat){x:α}(B:l[k]? =some x):
 ∃b o q f,(∀j,(Instr.indexAt T v (.int .i64 k)).run P j= .ok (.pointer (some ⟨b,o,none⟩)) j)/\At w b o q/\GoT.rd M w q x f/\(∀p∈f,p∈fp):=by
 have z:k<l.length:=(lg.1 B).1;rcases h with⟨Z,rfl,rfl,_⟩|⟨b,o,cap,q,fs,rfl,h1,h2,h3,I,J,R,rfl⟩
 ·simp at z
 ·obtain⟨c1,c2,c3,f1,f2,f3,rfl,rfl,u,_,Y,_⟩:=J.at_ k B;refine⟨b,o+k*GoT.n α,c2,f2,fun j=> ?_,?_,Y,fun p U=>by simp[U]⟩
  ·have hi:¬l.length<=k:=by omega
   simp[Instr.indexAt,run_underlying D,asIntOf,Q,Addr.add_lit,Result.andThen];intro N;exact absurd N hi
  ·have:=(At.append.1 (At.append.1 I).1).2;rwa[u]at this
end
instance:GoT Int where
 n:=1
 rd:=fun _ _ cs x fp=>cs=[.int .i64 x]/\fp=[]
 pos:=Nat.one_pos
 len:=by rintro M w cs x fp ⟨rfl,rfl⟩;rfl
 one:=by rintro M w cs x fp ⟨rfl,rfl⟩ u hu;simp at hu;subst hu;rfl
 live:=by rintro M w cs x fp ⟨rfl,rfl⟩;exact Live.nil w
 keep:=by rintro M w w' cs x fp h _;exact h
instance {α:Type}[GoT α]:GoT (List α) where
 n:=1
 rd:=fun M w cs x fp=>∃v,cs=[v]/\Sl M w v x fp
 pos:=Nat.one_pos
 len:=by rintro M w cs x fp ⟨v,rfl,h⟩;rfl
 one:=by rintro M w cs x fp ⟨v,rfl,h⟩ u hu;simp at hu;subst hu;exact h.one
 live:=by rintro M w cs x fp ⟨v,rfl,h⟩;exact h.live
 keep:=by rintro M w w' cs x fp ⟨v,rfl,h⟩ hs;exact⟨v,rfl,h.keep hs⟩
structure zaa where
 kind:Int
 n:Int
 signs:List Int
 deriving DecidableEq
instance:GoT zaa where
 n:=3
 rd:=fun M w cs x fp=>∃v_signs f_signs,cs=[.int .i64 x.kind,.int .i64 x.n,v_signs]/\Sl M w v_signs x.signs f_signs/\fp=f_signs
 pos:=by decide
 len:=by rintro M w cs x fp ⟨v_signs,f_signs,rfl,h_signs,rfl⟩;rfl
 one:=by
  rintro M w cs x fp ⟨v_signs,f_signs,rfl,h_signs,rfl⟩ u hu;simp only[List.mem_cons,List.not_mem_nil,or_false]at hu;rcases hu with rfl|rfl|rfl
  ·exact rfl
  ·exact rfl
  ·exact h_signs.one
 live:=by rintro M w cs x fp ⟨v_signs,f_signs,rfl,h_signs,rfl⟩;exact h_signs.live
 keep:=by
  rintro M w w' cs x fp ⟨v_signs,f_signs,rfl,h_signs,rfl⟩ hs;have s_signs:=hs;exact⟨v_signs,fp,rfl,h_signs.keep s_signs,rfl⟩
structure yab where
 client:Int
 seq:Int
 o:List zaa
 deriving DecidableEq
instance:GoT yab where
 n:=3
 rd:=fun M w cs x fp=>∃v_o f_o,cs=[.int .i64 x.client,.int .i64 x.seq,v_o]/\Sl M w v_o x.o f_o/\fp=f_o
 pos:=by decide
 len:=by rintro M w cs x fp ⟨v_o,f_o,rfl,h_o,rfl⟩;rfl
 one:=by
  rintro M w cs x fp ⟨v_o,f_o,rfl,h_o,rfl⟩ u hu;simp only[List.mem_cons,List.not_mem_nil,or_false]at hu;rcases hu with rfl|rfl|rfl
  ·exact rfl
  ·exact rfl
  ·exact h_o.one
 live:=by rintro M w cs x fp ⟨v_o,f_o,rfl,h_o,rfl⟩;exact h_o.live
 keep:=by
  rintro M w w' cs x fp ⟨v_o,f_o,rfl,h_o,rfl⟩ hs;have s_o:=hs;exact⟨v_o,fp,rfl,h_o.keep s_o,rfl⟩
structure qac where
 client:Int
 seq:Int
 rev:Int
 deriving DecidableEq
instance:GoT qac where
 n:=3
 rd:=fun _ _ cs x fp=>cs=[.int .i64 x.client,.int .i64 x.seq,.int .i64 x.rev]/\fp=[]
 pos:=by decide
 len:=by rintro M w cs x fp ⟨rfl,rfl⟩;rfl
 one:=by
  rintro M w cs x fp ⟨rfl,rfl⟩ u hu;simp only[List.mem_cons,List.not_mem_nil,or_false]at hu;rcases hu with rfl|rfl|rfl
  ·exact rfl
  ·exact rfl
  ·exact rfl
 live:=by rintro M w cs x fp ⟨rfl,rfl⟩;exact Live.nil w
 keep:=by rintro M w w' cs x fp h _;exact h
structure Xac where
 name:ByteArray
 from_:Int
 text:List Int
 list:List yab
 seen:List qac
 deriving DecidableEq
instance:GoT Xac where
 n:=5
 rd:=fun M w cs x fp=>∃v_text v_list v_seen f_text f_list f_seen,cs=[.string x.name,.int .i64 x.from_,v_text,v_list,v_seen]/\x.name.size<=M/\Sl M w v_text x.text f_text/\Sl M w v_list x.list f_list/\Sl M w v_seen x.seen f_seen/\fp=f_text++(f_list++(f_seen))
 pos:=by decide
 len:=by rintro M w cs x fp ⟨v_text,v_list,v_seen,f_text,f_list,f_seen,rfl,n_name,h_text,h_list,h_seen,rfl⟩;rfl
 one:=by
  rintro M w cs x fp ⟨v_text,v_list,v_seen,f_text,f_list,f_seen,rfl,n_name,h_text,h_list,h_seen,rfl⟩ u hu;simp only[List.mem_cons,List.not_mem_nil,or_false]at hu;rcases hu with rfl|rfl|rfl|rfl|rfl
  ·exact rfl
  ·exact rfl
  ·exact h_text.one
  ·exact h_list.one
  ·exact h_seen.one
 live:=by rintro M w cs x fp ⟨v_text,v_list,v_seen,f_text,f_list,f_seen,rfl,n_name,h_text,h_list,h_seen,rfl⟩;exact Live.append.2 ⟨h_text.live,Live.append.2 ⟨h_list.live,h_seen.live⟩⟩
 keep:=by
  rintro M w w' cs x fp ⟨v_text,v_list,v_seen,f_text,f_list,f_seen,rfl,n_name,h_text,h_list,h_seen,rfl⟩ hs;simp only[Same.append]at hs;obtain⟨s_text,⟨s_list,s_seen⟩⟩:=hs;exact⟨v_text,v_list,v_seen,f_text,f_list,f_seen,rfl,n_name,h_text.keep s_text,h_list.keep s_list,h_seen.keep s_seen,rfl⟩
structure vac where
 cap:Int
 next:Int
 out:Bool
 list:List yab
 deriving DecidableEq
instance:GoT vac where
 n:=4
 rd:=fun M w cs x fp=>∃v_list f_list,cs=[.int .i64 x.cap,.int .i64 x.next,.bool x.out,v_list]/\Sl M w v_list x.list f_list/\fp=f_list
 pos:=by decide
 len:=by rintro M w cs x fp ⟨v_list,f_list,rfl,h_list,rfl⟩;rfl
 one:=by
  rintro M w cs x fp ⟨v_list,f_list,rfl,h_list,rfl⟩ u hu;simp only[List.mem_cons,List.not_mem_nil,or_false]at hu;rcases hu with rfl|rfl|rfl|rfl
  ·exact rfl
  ·exact rfl
  ·exact rfl
  ·exact h_list.one
 live:=by rintro M w cs x fp ⟨v_list,f_list,rfl,h_list,rfl⟩;exact h_list.live
 keep:=by
  rintro M w w' cs x fp ⟨v_list,f_list,rfl,h_list,rfl⟩ hs;have s_list:=hs;exact⟨v_list,fp,rfl,h_list.keep s_list,rfl⟩
structure yai where
 id:Int
 doc:ByteArray
 r:vac
 deriving DecidableEq
instance:GoT yai where
 n:=6
 rd:=fun M w cs x fp=>∃c_r f_r,cs=[.int .i64 x.id,.string x.doc]++(c_r)/\x.doc.size<=M/\GoT.rd M w c_r x.r f_r/\fp=f_r
 pos:=by decide
 len:=by rintro M w cs x fp ⟨c_r,f_r,rfl,n_doc,h_r,rfl⟩;simp only[List.length_append,List.length_cons,List.length_nil,GoT.len h_r];rfl
 one:=by
  rintro M w cs x fp ⟨c_r,f_r,rfl,n_doc,h_r,rfl⟩ u hu;simp only[lm,List.mem_cons,List.not_mem_nil,or_false]at hu;rcases hu with(rfl|rfl)|hu
  ·exact rfl
  ·exact rfl
  ·exact GoT.one h_r _ hu
 live:=by rintro M w cs x fp ⟨c_r,f_r,rfl,n_doc,h_r,rfl⟩;exact GoT.live h_r
 keep:=by
  rintro M w w' cs x fp ⟨c_r,f_r,rfl,n_doc,h_r,rfl⟩ hs;have s_r:=hs;exact⟨c_r,fp,rfl,n_doc,GoT.keep h_r s_r,rfl⟩
structure qae where
 shut:Bool
 docs:List Xac
 subs:List yai
 last:Int
 deriving DecidableEq
instance:GoT qae where
 n:=4
 rd:=fun M w cs x fp=>∃v_docs v_subs f_docs f_subs,cs=[.bool x.shut,v_docs,v_subs,.int .i64 x.last]/\Sl M w v_docs x.docs f_docs/\Sl M w v_subs x.subs f_subs/\fp=f_docs++(f_subs)
 pos:=by decide
 len:=by rintro M w cs x fp ⟨v_docs,v_subs,f_docs,f_subs,rfl,h_docs,h_subs,rfl⟩;rfl
 one:=by
  rintro M w cs x fp ⟨v_docs,v_subs,f_docs,f_subs,rfl,h_docs,h_subs,rfl⟩ u hu;simp only[List.mem_cons,List.not_mem_nil,or_false]at hu;rcases hu with rfl|rfl|rfl|rfl
  ·exact rfl
  ·exact h_docs.one
  ·exact h_subs.one
  ·exact rfl
 live:=by rintro M w cs x fp ⟨v_docs,v_subs,f_docs,f_subs,rfl,h_docs,h_subs,rfl⟩;exact Live.append.2 ⟨h_docs.live,h_subs.live⟩
 keep:=by
  rintro M w w' cs x fp ⟨v_docs,v_subs,f_docs,f_subs,rfl,h_docs,h_subs,rfl⟩ hs;simp only[Same.append]at hs;obtain⟨s_docs,s_subs⟩:=hs;exact⟨v_docs,v_subs,f_docs,f_subs,rfl,h_docs.keep s_docs,h_subs.keep s_subs,rfl⟩
structure Jag where
 kind:Int
 doc:ByteArray
 client:Int
 seq:Int
 n:Int
 o:List zaa
 text:List Int
 deriving DecidableEq
instance:GoT Jag where
 n:=7
 rd:=fun M w cs x fp=>∃v_o v_text f_o f_text,cs=[.int .i64 x.kind,.string x.doc,.int .i64 x.client,.int .i64 x.seq,.int .i64 x.n,v_o,v_text]/\x.doc.size<=M/\Sl M w v_o x.o f_o/\Sl M w v_text x.text f_text/\fp=f_o++(f_text)
 pos:=by decide
 len:=by rintro M w cs x fp ⟨v_o,v_text,f_o,f_text,rfl,n_doc,h_o,h_text,rfl⟩;rfl
 one:=by
  rintro M w cs x fp ⟨v_o,v_text,f_o,f_text,rfl,n_doc,h_o,h_text,rfl⟩ u hu;simp only[List.mem_cons,List.not_mem_nil,or_false]at hu;rcases hu with rfl|rfl|rfl|rfl|rfl|rfl|rfl
  ·exact rfl
  ·exact rfl
  ·exact rfl
  ·exact rfl
  ·exact rfl
  ·exact h_o.one
  ·exact h_text.one
 live:=by rintro M w cs x fp ⟨v_o,v_text,f_o,f_text,rfl,n_doc,h_o,h_text,rfl⟩;exact Live.append.2 ⟨h_o.live,h_text.live⟩
 keep:=by
  rintro M w w' cs x fp ⟨v_o,v_text,f_o,f_text,rfl,n_doc,h_o,h_text,rfl⟩ hs;simp only[Same.append]at hs;obtain⟨s_o,s_text⟩:=hs;exact⟨v_o,v_text,f_o,f_text,rfl,n_doc,h_o.keep s_o,h_text.keep s_text,rfl⟩
structure Kal where
 code:Int
 rev:Int
 text:List Int
 list:List yab
 deriving DecidableEq
instance:GoT Kal where
 n:=4
 rd:=fun M w cs x fp=>∃v_text v_list f_text f_list,cs=[.int .i64 x.code,.int .i64 x.rev,v_text,v_list]/\Sl M w v_text x.text f_text/\Sl M w v_list x.list f_list/\fp=f_text++(f_list)
 pos:=by decide
 len:=by rintro M w cs x fp ⟨v_text,v_list,f_text,f_list,rfl,h_text,h_list,rfl⟩;rfl
 one:=by
  rintro M w cs x fp ⟨v_text,v_list,f_text,f_list,rfl,h_text,h_list,rfl⟩ u hu;simp only[List.mem_cons,List.not_mem_nil,or_false]at hu;rcases hu with rfl|rfl|rfl|rfl
  ·exact rfl
  ·exact rfl
  ·exact h_text.one
  ·exact h_list.one
 live:=by rintro M w cs x fp ⟨v_text,v_list,f_text,f_list,rfl,h_text,h_list,rfl⟩;exact Live.append.2 ⟨h_text.live,h_list.live⟩
 keep:=by
  rintro M w w' cs x fp ⟨v_text,v_list,f_text,f_list,rfl,h_text,h_list,rfl⟩ hs;simp only[Same.append]at hs;obtain⟨s_text,s_list⟩:=hs;exact⟨v_text,v_list,f_text,f_list,rfl,h_text.keep s_text,h_list.keep s_list,rfl⟩
def BIG:Nat:=4294967296
theorem QaR {n:Nat}(h:n<=BIG):n<=4294967296:=h
theorem Xab {n:Nat}(h:n<=4294967296):n<=BIG:=h
def Rd {α:Type}[GoT α](w:World)(cs:List Value)(x:α):Prop:=∃fp,GoT.rd BIG w cs x fp
def RdS {α:Type}[GoT α](w:World)(v:Value)(l:List α):Prop:=∃fp,Sl BIG w v l fp
structure Qaa (B:Nat)(w:World)(fp:List Pos):Prop where
 nodup:fp.Nodup
 ge:∀p∈fp,B<=p.1
 free:∀p∈fp,w.frozen? ⟨p.1,p.2,none⟩=false
def Own {α:Type}[GoT α](B:Nat)(w:World)(cs:List Value)(x:α):Prop:=∃fp,GoT.rd BIG w cs x fp/\Qaa B w fp
def uaf {α:Type}[GoT α](B:Nat)(w:World)(v:Value)(l:List α):Prop:=∃fp,Sl BIG w v l fp/\Qaa B w fp
def ka2 {α:Type}[GoT α](w:World)(x:α)(e:Ending)(w':World):Prop:=∃cs,e= .returned (.agg cs.toArray)/\Own w.heap.size w' cs x/\Below w.heap.size w w'
def kaD {α:Type}[GoT α](w:World)(l:List α)(e:Ending)(w':World):Prop:=∃v,e= .returned v/\uaf w.heap.size w' v l/\Below w.heap.size w w'
def yae (w:World)(v:Value)(e:Ending)(w':World):Prop:=e= .returned v/\Below w.heap.size w w'
theorem jac {W j:World}(hb:Below W.heap.size W j):(∀b o,b<W.heap.size->j.cell? ⟨b,o,none⟩=W.cell? ⟨b,o,none⟩)/\(∀b o,b<W.heap.size->j.frozen? ⟨b,o,none⟩=W.frozen? ⟨b,o,none⟩):=
 ⟨fun b o h=>hb.cell (p:=⟨b,o,none⟩) h,fun b o h=>hb.frozen (p:=⟨b,o,none⟩) h⟩
theorem za5 {B:Nat}{a w:World}(h:Below B a w)(n:Nat):Below B a (w.drewN n):=⟨h.os,h.tape,h.output,h.size,h.block⟩
theorem xaa (w:World)(b o j n:Nat)(v:Value):
 (w.setCell ⟨b,o,none⟩ v).cell? ⟨j,n,none⟩=if j=b/\n=o then(w.cell? ⟨b,o,none⟩).map (fun _=>v)else w.cell? ⟨j,n,none⟩:=by
 by_cases h:j=b/\n=o
 ·obtain⟨rfl,rfl⟩:=h;rw[if_pos ⟨rfl,rfl⟩];cases p:w.cell? ⟨j,n,none⟩with
  |some u=>rw[World.cell?_setCell_same w _ v p];rfl
  |none=>
   simp only[World.cell?,World.setCell,Array.getElem?_modify,if_true]at p⊢;cases hb:w.heap[j]? with
   |none=>rfl
   |some ob=>
    cases ob<;>simp_all
 ·rw[if_neg h];exact World.cell?_setCell_other _ _ _ _ (fun e=>h ⟨(congrArg Addr.block e).symm,(congrArg Addr.off e).symm⟩)
theorem qaB {B:Nat}{a W j:World}(h:Below B a W)(hb:Below W.heap.size W j)(n:B<=W.heap.size):Below B a j:=h.trans (hb.mono n)
def JaJ (C:Nat)(w w':World):Prop:=∀k,C<=k->w'.heap[k]? =w.heap[k]?
theorem JaJ.refl (C:Nat)(w:World):JaJ C w w:=fun _ _=>rfl
theorem JaJ.setCell {C:Nat}{a w:World}(h:JaJ C a w){p:Addr}(n:p.block<C)(v:Value):JaJ C a (w.setCell p v):=fun k j=>(Below.heap_setCell w p v k (by omega)).trans (h k j)
theorem JaJ.drew {C:Nat}{a w:World}(h:JaJ C a w):JaJ C a w.drew:=h
theorem JaJ.drewN {C:Nat}{a w:World}(h:JaJ C a w)(n:Nat):JaJ C a (w.drewN n):=h
section
variable {α:Type} [GoT α]
theorem Rd.below {w n:World}{j:List Value}{x:α}(h:Rd w j x)(hb:Below w.heap.size w n):Rd n j x:=by
 obtain⟨fp,h⟩:=h;exact⟨fp,GoT.keep h (Live.same_below hb (Live.lt (GoT.live h)))⟩
theorem RdS.below {w j:World}{v:Value}{l:List α}(h:RdS w v l)(hb:Below w.heap.size w j):RdS j v l:=by
 obtain⟨fp,h⟩:=h;exact⟨fp,h.keep (Live.same_below hb (Live.lt h.live))⟩
theorem RdS.drewN {w:World}{v:Value}{l:List α}(h:RdS w v l)(n:Nat):RdS (w.drewN n) v l:=h.below (za5 (lf _ _) n)
theorem Rd.drewN {w:World}{j:List Value}{x:α}(h:Rd w j x)(n:Nat):Rd (w.drewN n) j x:=h.below (za5 (lf _ _) n)
theorem RdS.alloc {w:World}{v:Value}{l:List α}(h:RdS w v l)(o:Obj):RdS (w.alloc o) v l:=h.below ((lf _ _).alloc (lr _) o)
theorem Rd.alloc {w:World}{j:List Value}{x:α}(h:Rd w j x)(o:Obj):Rd (w.alloc o) j x:=h.below ((lf _ _).alloc (lr _) o)
theorem RdS.nil {w:World}:RdS (α:=α) w (.slice none 0 0) []:=⟨[],Sl.nil⟩
theorem uaf.nil {B:Nat}{w:World}:uaf (α:=α) B w (.slice none 0 0) []:=⟨[],Sl.nil,List.nodup_nil,fun _ h=>(by cases h),fun _ h=>(by cases h)⟩
theorem Own.rd {B:Nat}{w:World}{j:List Value}{x:α}(h:Own B w j x):Rd w j x:=let⟨fp,h,_⟩:=h;⟨fp,h⟩
theorem uaf.rd {B:Nat}{w:World}{v:Value}{l:List α}(h:uaf B w v l):RdS w v l:=let⟨fp,h,_⟩:=h;⟨fp,h⟩
theorem Qaa.mono {B B':Nat}{w:World}{fp:List Pos}(h:Qaa B w fp)(j:B'<=B):Qaa B' w fp:=⟨h.nodup,fun p n=>Nat.le_trans j (h.ge p n),h.free⟩
theorem Qaa.below {B C:Nat}{w q:World}{fp:List Pos}(h:Qaa B w fp)(hb:Below C w q)(j:∀p∈fp,p.1<C):Qaa B q fp:=
 ⟨h.nodup,h.ge,fun p n=>by rw[hb.frozen (p:=⟨p.1,p.2,none⟩) (j p n)];exact h.free p n⟩
theorem Own.mono {B B':Nat}{w:World}{j:List Value}{x:α}(h:Own B w j x)(n:B'<=B):Own B' w j x:=let⟨fp,h,k⟩:=h;⟨fp,h,k.mono n⟩
theorem uaf.mono {B B':Nat}{w:World}{v:Value}{l:List α}(h:uaf B w v l)(j:B'<=B):uaf B' w v l:=let⟨fp,h,k⟩:=h;⟨fp,h,k.mono j⟩
theorem Own.below {B:Nat}{w p:World}{n:List Value}{x:α}(h:Own B w n x)(hb:Below w.heap.size w p):Own B p n x:=by
 obtain⟨fp,h,k⟩:=h;have j:=Live.lt (GoT.live h);exact⟨fp,GoT.keep h (Live.same_below hb j),k.below hb j⟩
theorem uaf.below {B:Nat}{w n:World}{v:Value}{l:List α}(h:uaf B w v l)(hb:Below w.heap.size w n):uaf B n v l:=by
 obtain⟨fp,h,k⟩:=h;have j:=Live.lt h.live;exact⟨fp,h.keep (Live.same_below hb j),k.below hb j⟩
theorem RdS.len {w:World}{v:Value}{l:List α}(h:RdS w v l){P:Program}{T E:TypeId}(n:P.underlying T=some (.slice E))(j:World)(ty:TypeId):
 (Builtin.len_ #[T] ty #[v]).run P j= .ok (.int .i64 l.length) j:=let⟨_,h⟩:=h;h.len n j ty
theorem RdS.le {w:World}{v:Value}{l:List α}(h:RdS w v l):l.length<=4294967296:=let⟨_,h⟩:=h;h.leM
theorem RdS.idx {w:World}{v:Value}{l:List α}(h:RdS w v l){P:Program}{T E:TypeId}(B:P.underlying T=some (.slice E))(I:∀j,(sizeOf E).run P j= .ok (GoT.n α) j)(k:Nat){x:α}(D:l[k]? =some x):
 ∃b o p,(∀j,(Instr.indexAt T v (.int .i64 k)).run P j= .ok (.pointer (some ⟨b,o,none⟩)) j)/\At w b o p/\Rd w p x:=by
 obtain⟨fp,h⟩:=h;obtain⟨b,o,p,f,q,u,z,_⟩:=h.idx B I k D;exact⟨b,o,p,q,u,f,z⟩
end
theorem RdS.isSlice {α:Type}[GoT α]{w:World}{v:Value}{l:List α}(h:RdS w v l):∃a c,v= .slice a l.length c:=by
 obtain⟨fp,⟨j,rfl,rfl,_⟩|⟨b,o,cap,n,fs,rfl,_⟩⟩:=h
 ·exact⟨_,_,rfl⟩
 ·exact⟨_,_,rfl⟩
theorem RdS.stores {α:Type}[GoT α]{w:World}{v:Value}{l:List α}(h:RdS w v l)(P:Program):v.cells= #[v]/\∀a m w,(store a v m).run P w=stored P w a v m:=by
 obtain⟨a,c,rfl⟩:=h.isSlice;exact⟨rfl,fun a m w=>run_store P w a _ m rfl⟩
theorem At.two {w:World}{b o:Nat}{c0 c1:Value}(h:At w b o [c0,c1]):w.cell? ⟨b,o,none⟩=some c0/\w.cell? ⟨b,o+1,none⟩=some c1:=⟨h 0 c0 rfl,h 1 c1 rfl⟩
theorem At.one {w:World}{b o:Nat}{c0:Value}(h:At w b o [c0]):w.cell? ⟨b,o,none⟩=some c0:=h 0 c0 rfl
theorem Qan {α:Type}{a b:List α}(n:a.length=b.length)(h:∀k,k<a.length->a[k]? =b[k]?):a=b:=by
 apply List.ext_getElem?;intro k;by_cases j:k<a.length
 ·exact h k j
 ·rw[List.getElem?_eq_none (by omega),List.getElem?_eq_none (by omega)]
theorem Jaa {α:Type}{l:List α}{k:Nat}(h:k<l.length):∃x,l[k]? =some x:=⟨l[k],List.getElem?_eq_getElem h⟩
theorem Zag {α:Type}{l:List α}{k:Nat}{x:α}(h:l[k]? =some x):l.take (k+1)=l.take k++[x]:=by
 obtain⟨j,n⟩:=lg.1 h;rw[List.take_succ_eq_append_getElem j,n]
theorem Jah {k:IntKind}{a b:Int}(h:a=b):Ending.returned (.int k a)= .returned (.int k b):=by rw[h]
theorem jaa {a b:Bool}(h:a=b):Ending.returned (.bool a)= .returned (.bool b):=by rw[h]
theorem blw {B:Nat}{a w:World}(h:Below B a w:=by repeat' first|with_reducible (first|exact lf _ _|assumption|apply Below.setCell|apply Below.alloc|apply Below.drew|apply za5|refine qaB ?_ (by assumption) ?_)|omega|(simp;done)|(simp;omega)):Below B a w:=h
theorem sm {p:Prop}(h:p:=by simp):p:=h
theorem szl {B n:Nat}{a w:World}(h:Below B a w)(k:a.heap.size<=w.heap.size->n<=w.heap.size:=by intro this;(try simp at this);omega):n<=w.heap.size:=k h.size
theorem om {p:Prop}(h:p:=by first|omega|(simp;done)|(simp;omega)):p:=h
theorem mv3 {B b:Nat}{w j:World}{n o1 o2:Nat}{q u D:Option Value}(h:Below B w j)(z:b<B)(I:w.cell? ⟨b,n,none⟩=q)(J:w.cell? ⟨b,o1,none⟩=u)(M:w.cell? ⟨b,o2,none⟩=D):j.cell? ⟨b,n,none⟩=q/\j.cell? ⟨b,o1,none⟩=u/\j.cell? ⟨b,o2,none⟩=D:=⟨(h.cell (p:=⟨b,n,none⟩) z).trans I,(h.cell (p:=⟨b,o1,none⟩) z).trans J,(h.cell (p:=⟨b,o2,none⟩) z).trans M⟩
theorem mv4 {B b:Nat}{w j:World}{n o1 o2 o3:Nat}{q u D I:Option Value}(h:Below B w j)(z:b<B)(J:w.cell? ⟨b,n,none⟩=q)(M:w.cell? ⟨b,o1,none⟩=u)(N:w.cell? ⟨b,o2,none⟩=D)(Q:w.cell? ⟨b,o3,none⟩=I):j.cell? ⟨b,n,none⟩=q/\j.cell? ⟨b,o1,none⟩=u/\j.cell? ⟨b,o2,none⟩=D/\j.cell? ⟨b,o3,none⟩=I:=⟨(h.cell (p:=⟨b,n,none⟩) z).trans J,(h.cell (p:=⟨b,o1,none⟩) z).trans M,(h.cell (p:=⟨b,o2,none⟩) z).trans N,(h.cell (p:=⟨b,o3,none⟩) z).trans Q⟩
theorem mv5 {B b:Nat}{w j:World}{n o1 o2 o3 o4:Nat}{q u D I J:Option Value}(h:Below B w j)(z:b<B)(M:w.cell? ⟨b,n,none⟩=q)(N:w.cell? ⟨b,o1,none⟩=u)(Q:w.cell? ⟨b,o2,none⟩=D)(R:w.cell? ⟨b,o3,none⟩=I)(U:w.cell? ⟨b,o4,none⟩=J):j.cell? ⟨b,n,none⟩=q/\j.cell? ⟨b,o1,none⟩=u/\j.cell? ⟨b,o2,none⟩=D/\j.cell? ⟨b,o3,none⟩=I/\j.cell? ⟨b,o4,none⟩=J:=⟨(h.cell (p:=⟨b,n,none⟩) z).trans M,(h.cell (p:=⟨b,o1,none⟩) z).trans N,(h.cell (p:=⟨b,o2,none⟩) z).trans Q,(h.cell (p:=⟨b,o3,none⟩) z).trans R,(h.cell (p:=⟨b,o4,none⟩) z).trans U⟩
theorem mv6 {B b:Nat}{w j:World}{n o1 o2 o3 o4 o5:Nat}{q u D I J M:Option Value}(h:Below B w j)(z:b<B)(N:w.cell? ⟨b,n,none⟩=q)(Q:w.cell? ⟨b,o1,none⟩=u)(R:w.cell? ⟨b,o2,none⟩=D)(U:w.cell? ⟨b,o3,none⟩=I)(Y:w.cell? ⟨b,o4,none⟩=J)(Z:w.cell? ⟨b,o5,none⟩=M):j.cell? ⟨b,n,none⟩=q/\j.cell? ⟨b,o1,none⟩=u/\j.cell? ⟨b,o2,none⟩=D/\j.cell? ⟨b,o3,none⟩=I/\j.cell? ⟨b,o4,none⟩=J/\j.cell? ⟨b,o5,none⟩=M:=⟨(h.cell (p:=⟨b,n,none⟩) z).trans N,(h.cell (p:=⟨b,o1,none⟩) z).trans Q,(h.cell (p:=⟨b,o2,none⟩) z).trans R,(h.cell (p:=⟨b,o3,none⟩) z).trans U,(h.cell (p:=⟨b,o4,none⟩) z).trans Y,(h.cell (p:=⟨b,o5,none⟩) z).trans Z⟩
theorem mf4 {B b:Nat}{w j:World}{n o1 o2 o3:Nat}{q u D I:Bool}(h:Below B w j)(z:b<B)(J:w.frozen? ⟨b,n,none⟩=q)(M:w.frozen? ⟨b,o1,none⟩=u)(N:w.frozen? ⟨b,o2,none⟩=D)(Q:w.frozen? ⟨b,o3,none⟩=I):j.frozen? ⟨b,n,none⟩=q/\j.frozen? ⟨b,o1,none⟩=u/\j.frozen? ⟨b,o2,none⟩=D/\j.frozen? ⟨b,o3,none⟩=I:=⟨(h.frozen (p:=⟨b,n,none⟩) z).trans J,(h.frozen (p:=⟨b,o1,none⟩) z).trans M,(h.frozen (p:=⟨b,o2,none⟩) z).trans N,(h.frozen (p:=⟨b,o3,none⟩) z).trans Q⟩
theorem mf5 {B b:Nat}{w j:World}{n o1 o2 o3 o4:Nat}{q u D I J:Bool}(h:Below B w j)(z:b<B)(M:w.frozen? ⟨b,n,none⟩=q)(N:w.frozen? ⟨b,o1,none⟩=u)(Q:w.frozen? ⟨b,o2,none⟩=D)(R:w.frozen? ⟨b,o3,none⟩=I)(U:w.frozen? ⟨b,o4,none⟩=J):j.frozen? ⟨b,n,none⟩=q/\j.frozen? ⟨b,o1,none⟩=u/\j.frozen? ⟨b,o2,none⟩=D/\j.frozen? ⟨b,o3,none⟩=I/\j.frozen? ⟨b,o4,none⟩=J:=⟨(h.frozen (p:=⟨b,n,none⟩) z).trans M,(h.frozen (p:=⟨b,o1,none⟩) z).trans N,(h.frozen (p:=⟨b,o2,none⟩) z).trans Q,(h.frozen (p:=⟨b,o3,none⟩) z).trans R,(h.frozen (p:=⟨b,o4,none⟩) z).trans U⟩
theorem mx2 {X:Type}{B b:Nat}{w:World}{F:X->World}{j o1:Nat}{n q:Option Value}(h:∀x,Below B w (F x))(z:b<B)(u:w.cell? ⟨b,j,none⟩=n)(D:w.cell? ⟨b,o1,none⟩=q):(∀x,(F x).cell? ⟨b,j,none⟩=n)/\(∀x,(F x).cell? ⟨b,o1,none⟩=q):=⟨fun x=>((h x).cell (p:=⟨b,j,none⟩) z).trans u,fun x=>((h x).cell (p:=⟨b,o1,none⟩) z).trans D⟩
theorem mx3 {X:Type}{B b:Nat}{w:World}{F:X->World}{j o1 o2:Nat}{n q u:Option Value}(h:∀x,Below B w (F x))(z:b<B)(D:w.cell? ⟨b,j,none⟩=n)(I:w.cell? ⟨b,o1,none⟩=q)(J:w.cell? ⟨b,o2,none⟩=u):(∀x,(F x).cell? ⟨b,j,none⟩=n)/\(∀x,(F x).cell? ⟨b,o1,none⟩=q)/\(∀x,(F x).cell? ⟨b,o2,none⟩=u):=⟨fun x=>((h x).cell (p:=⟨b,j,none⟩) z).trans D,fun x=>((h x).cell (p:=⟨b,o1,none⟩) z).trans I,fun x=>((h x).cell (p:=⟨b,o2,none⟩) z).trans J⟩
theorem mx4 {X:Type}{B b:Nat}{w:World}{F:X->World}{j o1 o2 o3:Nat}{n q u D:Option Value}(h:∀x,Below B w (F x))(z:b<B)(I:w.cell? ⟨b,j,none⟩=n)(J:w.cell? ⟨b,o1,none⟩=q)(M:w.cell? ⟨b,o2,none⟩=u)(N:w.cell? ⟨b,o3,none⟩=D):(∀x,(F x).cell? ⟨b,j,none⟩=n)/\(∀x,(F x).cell? ⟨b,o1,none⟩=q)/\(∀x,(F x).cell? ⟨b,o2,none⟩=u)/\(∀x,(F x).cell? ⟨b,o3,none⟩=D):=⟨fun x=>((h x).cell (p:=⟨b,j,none⟩) z).trans I,fun x=>((h x).cell (p:=⟨b,o1,none⟩) z).trans J,fun x=>((h x).cell (p:=⟨b,o2,none⟩) z).trans M,fun x=>((h x).cell (p:=⟨b,o3,none⟩) z).trans N⟩
theorem mx5 {X:Type}{B b:Nat}{w:World}{F:X->World}{j o1 o2 o3 o4:Nat}{n q u D I:Option Value}(h:∀x,Below B w (F x))(z:b<B)(J:w.cell? ⟨b,j,none⟩=n)(M:w.cell? ⟨b,o1,none⟩=q)(N:w.cell? ⟨b,o2,none⟩=u)(Q:w.cell? ⟨b,o3,none⟩=D)(R:w.cell? ⟨b,o4,none⟩=I):(∀x,(F x).cell? ⟨b,j,none⟩=n)/\(∀x,(F x).cell? ⟨b,o1,none⟩=q)/\(∀x,(F x).cell? ⟨b,o2,none⟩=u)/\(∀x,(F x).cell? ⟨b,o3,none⟩=D)/\(∀x,(F x).cell? ⟨b,o4,none⟩=I):=⟨fun x=>((h x).cell (p:=⟨b,j,none⟩) z).trans J,fun x=>((h x).cell (p:=⟨b,o1,none⟩) z).trans M,fun x=>((h x).cell (p:=⟨b,o2,none⟩) z).trans N,fun x=>((h x).cell (p:=⟨b,o3,none⟩) z).trans Q,fun x=>((h x).cell (p:=⟨b,o4,none⟩) z).trans R⟩
theorem mx6 {X:Type}{B b:Nat}{w:World}{F:X->World}{j o1 o2 o3 o4 o5:Nat}{n q u D I J:Option Value}(h:∀x,Below B w (F x))(z:b<B)(M:w.cell? ⟨b,j,none⟩=n)(N:w.cell? ⟨b,o1,none⟩=q)(Q:w.cell? ⟨b,o2,none⟩=u)(R:w.cell? ⟨b,o3,none⟩=D)(U:w.cell? ⟨b,o4,none⟩=I)(Y:w.cell? ⟨b,o5,none⟩=J):(∀x,(F x).cell? ⟨b,j,none⟩=n)/\(∀x,(F x).cell? ⟨b,o1,none⟩=q)/\(∀x,(F x).cell? ⟨b,o2,none⟩=u)/\(∀x,(F x).cell? ⟨b,o3,none⟩=D)/\(∀x,(F x).cell? ⟨b,o4,none⟩=I)/\(∀x,(F x).cell? ⟨b,o5,none⟩=J):=⟨fun x=>((h x).cell (p:=⟨b,j,none⟩) z).trans M,fun x=>((h x).cell (p:=⟨b,o1,none⟩) z).trans N,fun x=>((h x).cell (p:=⟨b,o2,none⟩) z).trans Q,fun x=>((h x).cell (p:=⟨b,o3,none⟩) z).trans R,fun x=>((h x).cell (p:=⟨b,o4,none⟩) z).trans U,fun x=>((h x).cell (p:=⟨b,o5,none⟩) z).trans Y⟩
theorem QaX {w:World}{g o:Nat}{j:Array Value}{E:TypeId}{fr:Nat×Nat}{v:Value}(n:w.heap[g]? =some (.cells j E fr)):
 (w.setCell ⟨g,o,none⟩ v).heap[g]? =some (.cells (j.setIfInBounds o v) E fr):=by
 simp only[World.setCell,Array.getElem?_modify,n,if_true,Option.map_some,Option.isSome_none,Bool.false_eq_true,if_false]
theorem JaC {g:Nat}{E:TypeId}{fr:Nat×Nat}:∀(vs:List Value) (w:World) (o:Nat) (j:List Value),w.heap[g]? =some (.cells j.toArray E fr)->o+vs.length<=j.length->
 (w.setCells g o vs).heap[g]? =some (.cells (j.take o++(vs++j.drop (o+vs.length))).toArray E fr)
 |[],w,o,j,n,_=>by simp[World.setCells,n]
 |v::r,w,o,j,n,q=>by
  have p:=QaX (o:=o) (v:=v) n;simp only[List.setIfInBounds_toArray]at p;simp only[List.length_cons]at q;rw[World.setCells,JaC r _ (o+1) (j.set o v) p (by simp;omega)]
  congr 3
  have u:o<j.length:=by omega
  rw[List.take_succ_eq_append_getElem (by simpa using u)]
  simp only[List.getElem_set_self,List.take_set,List.drop_set,List.length_cons,List.append_assoc,List.cons_append,List.nil_append];rw[List.set_eq_of_length_le (by simp;omega)]
  have e:o+1+r.length=o+(r.length+1):=by omega
  rw[e];rw[if_pos (by omega)]
theorem Xat {g:Nat}:∀(vs:List Value) (w:World) (o k:Nat),k≠g->(w.setCells g o vs).heap[k]? =w.heap[k]?
 |[],_,_,_,_=>rfl
 |v::r,w,o,k,j=>by
  rw[World.setCells,Xat r _ _ k j];exact Below.heap_setCell w ⟨g,o,none⟩ v k j
theorem xao {w:World}{g o:Nat}{j:List Value}{E:TypeId}{fr:Nat×Nat}(n:w.heap[g]? =some (.cells j.toArray E fr)):w.cell? ⟨g,o,none⟩=j[o]? :=by
 simp[World.cell?,n]
theorem Zal {w:World}{g o:Nat}{j:Array Value}{E:TypeId}(n:w.heap[g]? =some (.cells j E (0,0))):w.frozen? ⟨g,o,none⟩=false:=by
 simp[World.frozen?,n]
theorem va5 {w:World}{g:Nat}{c1 c2 c3:List Value}{E:TypeId}{fr:Nat×Nat}(p:w.heap[g]? =some (.cells (c1++(c2++c3)).toArray E fr)):At w g c1.length c2:=by
 intro j v n;have q:j<c2.length:=(lg.1 n).1;rw[xao p,List.getElem?_append_right (by omega),List.getElem?_append_left (by omega)]
 simpa using n
def Ja8 {α:Type}[GoT α](E:TypeId)(w:World)(B g:Nat)(l:List α)(k:Nat):Prop:=
 ∃cs fs rest,w.heap[g]? =some (.cells (cs++rest).toArray E (0,0))/\Els BIG w cs (l.take k) fs/\rest.length=(l.length-k)*GoT.n α/\Qaa B w fs/\(∀p∈fs,p.1≠g)/\B<=g/\k<=l.length/\l.length<=BIG
section
variable {α:Type} [GoT α] {E:TypeId} {w w':World} {B g k:Nat} {l:List α}
theorem Ja8.lt (h:Ja8 E w B g l k):g<w.heap.size:=by
 obtain⟨n,fs,rest,j,_⟩:=h;exact(Array.getElem?_eq_some_iff.1 j).1
theorem Ja8.below (h:Ja8 E w B g l k)(hb:Below w.heap.size w w'):Ja8 E w' B g l k:=by
 have j:=h.lt;obtain⟨q,fs,rest,D,n,J,z,I,u⟩:=h;have p:=Live.lt n.live;exact⟨q,fs,rest,by rw[hb.block g j];exact D,n.keep (Live.same_below hb p),J,z.below hb p,I,u⟩
theorem Ja8.cells (h:Ja8 E w B g l k)(R:k<l.length)(j:Nat)(Q:j<GoT.n α):(∃v,w.cell? ⟨g,k*GoT.n α+j,none⟩=some v)/\w.frozen? ⟨g,k*GoT.n α+j,none⟩=false:=by
 obtain⟨D,fs,rest,p,u,z,N,U,I,J,M⟩:=h;refine⟨?_,Zal p⟩;rw[xao p];have q:=u.length;rw[List.length_take,Nat.min_eq_left (by omega)]at q
 have:GoT.n α<=rest.length:=by
  rw[z];exact Nat.le_mul_of_pos_left _ (by omega)
 exact⟨_,List.getElem?_eq_getElem (by simp;omega)⟩
theorem Ja8.step {w0:World}{x:α}{c:List Value}(h:Ja8 E w0 B g l k)(hb:Below w0.heap.size w0 w)(hx:l[k]? =some x)(ho:Own w0.heap.size w c x):Ja8 E (w.setCells g (k*GoT.n α) c) B g l (k+1):=by
 have Y:=h.lt;have Z:k<l.length:=(lg.1 hx).1;obtain⟨cs,fs,rest,hg,R,hr,hf,hn,h1,h2,h3⟩:=h;have D:=Live.lt R.live;obtain⟨f,J,q⟩:=ho;have Q:=GoT.len J;have hc:=R.length;rw[List.length_take,Nat.min_eq_left (by omega)]at hc
 have hrn:GoT.n α<=rest.length:=by rw[hr];exact Nat.le_mul_of_pos_left _ (by omega)
 rw[<-hb.block g Y]at hg;have U:=R.keep (Live.same_below hb D);have I:=hf.below hb D;have M:=JaC c w (k*GoT.n α) (cs++rest) hg (by simp;omega)
 have u:Same w (w.setCells g (k*GoT.n α) c) (fs++f):=by
  intro p j;have hpg:p.1≠g:=by
   rcases lm.1 j with j|j
   ·exact hn p j
   ·have:=q.ge p j;omega
  exact World.cell?_of_block (w:=w) (a:=⟨p.1,p.2,none⟩) (Xat c w _ p.1 hpg)
 have z:∀p:Pos,p.1≠g->(w.setCells g (k*GoT.n α) c).frozen? ⟨p.1,p.2,none⟩=w.frozen? ⟨p.1,p.2,none⟩:=fun p j=>
  World.frozen?_of_block (w:=w) (a:=⟨p.1,p.2,none⟩) (Xat c w _ p.1 j)
 refine⟨cs++c,fs++f,rest.drop (GoT.n α),?_,?_,?_,⟨?_,?_,?_⟩,?_,h1,Z,h3⟩
 ·rw[M];congr 3
  rw[<-hc,List.take_left,Q,List.drop_append];simp[List.append_assoc]
 ·rw[Zag hx];exact Els.snoc (U.keep (Same.append.1 u).1) (GoT.keep J (Same.append.1 u).2)
 ·rw[List.length_drop,hr,show l.length-k=(l.length-(k+1))+1 by omega,Nat.add_mul];omega
 ·rw[ln];refine⟨I.nodup,q.nodup,fun a ha b N e=> ?_⟩
  have:=D a ha;have:=q.ge b N;rw[e]at *;omega
 ·intro p j;rcases lm.1 j with j|j
  ·exact hf.ge p j
  ·have:=q.ge p j;omega
 ·intro p j;rcases lm.1 j with j|j
  ·rw[z p (hn p j)];exact I.free p j
  ·rw[z p (by have:=q.ge p j;omega)];exact q.free p j
 ·intro p j;rcases lm.1 j with j|j
  ·exact hn p j
  ·have:=q.ge p j;omega
theorem Ja8.done (h:Ja8 E w B g l l.length):uaf B w (.slice (some ⟨g,0,none⟩) l.length l.length) l:=by
 obtain⟨I,fs,rest,q,u,U,z,R,N,h2,J⟩:=h;rw[List.take_length]at u;have D:rest=[]:=List.eq_nil_of_length_eq_zero (by rw[U];simp)
 subst D;simp only[List.append_nil]at q;have hc:=u.length;refine⟨own g 0 (l.length*GoT.n α)++fs,.inr ⟨g,0,l.length,I,fs,rfl,lr _,?_,J,?_,u,?_,rfl⟩,?_,?_,?_⟩
 ·have:=QaR J;unfold maxLen;omega
 ·have:=va5 (c1:=[]) (c2:=I) (c3:=[]) (by simpa using q)
  simpa using this
 ·intro p j;obtain⟨M,Y,Z⟩:=Kaa.1 j;rw[M,xao q,List.getElem?_eq_getElem (by omega)]
  rfl
 ·rw[ln];exact⟨jau _ _ _,z.nodup,fun a Q b hb e=>R b hb (by rw[<-e];exact(Kaa.1 Q).1)⟩
 ·intro p j;rcases lm.1 j with j|j
  ·rw[(Kaa.1 j).1];exact N
  ·exact z.ge p j
 ·intro p j;rcases lm.1 j with j|j
  ·rw[(Kaa.1 j).1];exact Zal q
  ·exact z.free p j
end
theorem xaH:∀j,(sizeOf 3).run Tryz.prog j= .ok 1 j:=fun _=>by kernel_rfl
theorem Sl.lens {α:Type}[GoT α]{M:Nat}{w:World}{v:Value}{l:List α}{fp:List Pos}(h:Sl M w v l fp)(nd:fp.Nodup){P:Program}{T E:TypeId}(hT:P.underlying T=some (.slice E))
 (hl:∀U,(sizeOf E).run P U= .ok (GoT.n α) U) (k:Nat) {x:α} (hk:l[k]? =some x):
 ∃b o cs f,(∀U,(Instr.indexAt T v (.int .i64 k)).run P U= .ok (.pointer (some ⟨b,o,none⟩)) U)/\At w b o cs/\GoT.rd M w cs x f/\(∀j<GoT.n α,(b,o+j)∈fp/\(b,o+j)∉f)/\
  (∀p∈f,p∈fp)/\f.Nodup/\
  (∀J z x',At J b o z->GoT.rd M J z x' f->(∀p∈fp,p∉f->(∀j<GoT.n α,p≠(b,o+j))->J.cell? ⟨p.1,p.2,none⟩=w.cell? ⟨p.1,p.2,none⟩)->Sl M J v (l.set k x') fp):=by
 have a4:k<l.length:=(lg.1 hk).1;rcases h with⟨ao,rfl,rfl,_⟩|⟨b,o,cap,cs,fs,rfl,h1,h2,h3,ha,he,hlv,rfl⟩
 ·simp at a4
 ·obtain⟨c1,c2,c3,f1,f2,f3,rfl,rfl,B,e1,hx,e3⟩:=he.at_ k hk;obtain⟨ndo,ndf,dis⟩:=ln.1 nd;obtain⟨a8,nd3,Y⟩:=ln.1 ndf;obtain⟨nd1,nd2,Q⟩:=ln.1 a8;have hc2:=GoT.len hx;have a2:=e3.length;rw[List.length_drop]at a2;have hkn:k*GoT.n α+GoT.n α<=cap*GoT.n α:=by
   have:=Nat.mul_le_mul_right (GoT.n α) (show k+1<=cap by omega)
   rwa[Nat.add_mul,Nat.one_mul]at this
  have hall:k*GoT.n α+GoT.n α+c3.length<=cap*GoT.n α:=by
   have:=Nat.mul_le_mul_right (GoT.n α) h1;rw[a2];have e:l.length=k+1+(l.length-(k+1)):=by omega
   rw[e,Nat.add_mul,Nat.add_mul,Nat.one_mul]at this;simpa using this
  have D:∀j<GoT.n α,((b,o+k*GoT.n α+j):Pos)∈own b o (cap*GoT.n α):=fun j N=>Kaa.2 ⟨rfl,by simp;omega,by simp;omega⟩
  refine⟨b,o+k*GoT.n α,c2,f2,fun U=> ?_,?_,hx,fun j N=>⟨lm.2 (.inl (D j N)),fun hm=>dis _ (D j N) _ (by simp[hm]) rfl⟩,fun p u=>by simp[u],nd2,?_⟩
  ·have hi:¬l.length<=k:=by omega
   simp[Instr.indexAt,run_underlying hT,asIntOf,hl,Addr.add_lit,Result.andThen];intro hh;exact absurd hh hi
  ·have:=(At.append.1 (At.append.1 ha).1).2;rwa[B]at this
  ·intro J z x' Z a7 I;have a3:=GoT.len a7;obtain⟨a0,a1⟩:=At.append.1 ha;obtain⟨ha1,ha2⟩:=At.append.1 a0;rw[B]at ha2;rw[List.length_append,B,hc2]at a1;have R:∀q:Nat,q<cap*GoT.n α->(q<k*GoT.n α\/k*GoT.n α+GoT.n α<=q)->J.cell? ⟨b,o+q,none⟩=w.cell? ⟨b,o+q,none⟩:=by
    intro q hq a5;have hm:((b,o+q):Pos)∈own b o (cap*GoT.n α):=Kaa.2 ⟨rfl,by simp,by simp;omega⟩
    refine I (b,o+q) (lm.2 (.inl hm)) (fun hf=>dis _ hm _ (by simp[hf]) rfl) (fun j N e=> ?_)
    simp only[Prod.mk.injEq,true_and]at e;omega
   have s13:Same w J (f1++f3):=by
    intro p u;refine I p (by rcases lm.1 u with u|u<;>simp[u]) (fun hf=> ?_) (fun j N e=> ?_)
    ·rcases lm.1 u with u|u
     ·exact Q _ u _ hf rfl
     ·exact Y _ (lm.2 (.inr hf)) _ u rfl
    ·subst e;exact dis _ (D j N) _ (by rcases lm.1 u with u|u<;>simp[u]) rfl
   obtain⟨s1,s3⟩:=Same.append.1 s13;refine .inr ⟨b,o,cap,c1++z++c3,f1++f2++f3,by rw[List.length_set],by rw[List.length_set];exact h1,h2,by rw[List.length_set];exact h3,?_,?_,?_,rfl⟩
   ·refine At.append.2 ⟨At.append.2 ⟨ha1.keep fun j N=>R j (by omega) (.inl (by omega)),by rw[B];exact Z⟩,?_⟩
    rw[List.length_append,B,a3];refine a1.keep fun j N=> ?_
    rw[Nat.add_assoc];exact R _ (by omega) (.inr (by omega))
   ·have a6:l.set k x'=l.take k++([x']++l.drop (k+1)):=by rw[List.set_eq_take_append_cons_drop,if_pos a4];rfl
    rw[a6,List.append_assoc];refine Els.append.2 ⟨c1,z++c3,f1,f2++f3,rfl,e1.keep s1,Els.append.2 ⟨z,c3,f2,f3,rfl,Els.single a7,e3.keep s3,rfl⟩,by simp⟩
   ·intro p u;obtain⟨q1,q2,q3⟩:=Kaa.1 u;obtain⟨pb,po⟩:=p;simp only at q1 q2 q3;subst q1;obtain⟨q,rfl⟩:∃q,po=o+q:=⟨po-o,by omega⟩
    by_cases a5:q<k*GoT.n α\/k*GoT.n α+GoT.n α<=q
    ·show(J.cell? ⟨pb,o+q,none⟩).isSome=true;rw[R q (by omega) a5]
     exact hlv _ u
    ·obtain⟨j,rfl⟩:∃j,q=k*GoT.n α+j:=⟨q-k*GoT.n α,by omega⟩
     have:=Z j _ (List.getElem?_eq_getElem (by omega))
     show(J.cell? ⟨pb,o+(k*GoT.n α+j),none⟩).isSome=true;rw[<-Nat.add_assoc,this];rfl
structure Wr (fp:List Pos)(w w':World):Prop where
 os:w'.os=w.os
 tape:w'.tape=w.tape
 output:w'.output=w.output
 size:w.heap.size<=w'.heap.size
 cell:∀p:Pos,p.1<w.heap.size->p∉fp->w'.cell? ⟨p.1,p.2,none⟩=w.cell? ⟨p.1,p.2,none⟩
 frozen:∀p:Pos,p.1<w.heap.size->w'.frozen? ⟨p.1,p.2,none⟩=w.frozen? ⟨p.1,p.2,none⟩
 block:∀k,k<w.heap.size->(∀p∈fp,p.1≠k)->w'.heap[k]? =w.heap[k]?
theorem Wr.refl (fp:List Pos)(w:World):Wr fp w w:=⟨rfl,rfl,rfl,lr _,fun _ _ _=>rfl,fun _ _=>rfl,fun _ _ _=>rfl⟩
theorem Wr.trans {fp:List Pos}{a b c:World}(h:Wr fp a b)(k:Wr fp b c):Wr fp a c:=
 ⟨k.os.trans h.os,k.tape.trans h.tape,k.output.trans h.output,Nat.le_trans h.size k.size,fun p n j=>(k.cell p (lq n h.size) j).trans (h.cell p n j),
  fun p n=>(k.frozen p (lq n h.size)).trans (h.frozen p n),fun q u j=>(k.block q (lq u h.size) j).trans (h.block q u j)⟩
theorem Wr.sub {f1 f2:List Pos}{w u:World}(h:Wr f1 w u)(q:∀p∈f1,p∈f2):Wr f2 w u:=
 ⟨h.os,h.tape,h.output,h.size,fun p n j=>h.cell p n (fun B=>j (q p B)),h.frozen,fun k z j=>h.block k z fun p n=>j p (q p n)⟩
theorem Wr.of_below {fp:List Pos}{w n:World}(h:Below w.heap.size w n):Wr fp w n:=
 ⟨h.os,h.tape,h.output,h.size,fun p j _=>h.cell (p:=⟨p.1,p.2,none⟩) j,fun p j=>h.frozen (p:=⟨p.1,p.2,none⟩) j,fun k q _=>h.block k q⟩
theorem Wr.below {fp:List Pos}{w n:World}{B:Nat}(h:Wr fp w n)(u:B<=w.heap.size)(j:∀p∈fp,B<=p.1):Below B w n:=
 ⟨h.os,h.tape,h.output,h.size,fun k z=>h.block k (by omega) fun p q e=>by have:=j p q;omega⟩
theorem Wr.setCell {fp:List Pos}(w:World){b o:Nat}(n:(b,o)∈fp)(v:Value):Wr fp w (w.setCell ⟨b,o,none⟩ v):=
 ⟨rfl,rfl,rfl,by simp,fun p _ j=>World.cell?_setCell_other _ _ _ _ (fun e=>j (by
  have q:b=p.1:=congrArg Addr.block e;have u:o=p.2:=congrArg Addr.off e;subst q;subst u;exact n)),fun p _=>by simp,
  fun k _ j=>Below.heap_setCell w ⟨b,o,none⟩ v k (fun e=>j _ n e.symm)⟩
theorem Wr.same {fp g:List Pos}{w n:World}(h:Wr fp w n)(q:Live w g)(hd:∀p∈g,p∉fp):Same w n g:=fun p j=>h.cell p (q.lt p j) (hd p j)
theorem Wr.fresh {fp g:List Pos}{w q:World}{B:Nat}(h:Wr fp w q)(u:Live w g)(j:Qaa B w g):Qaa B q g:=
 ⟨j.nodup,j.ge,fun p n=>by rw[h.frozen p (u.lt p n)];exact j.free p n⟩
class GoM (α:Type) where
 cnt:α->Nat
 mrk:Int->α->α
 cnt_mk:∀k x,cnt (mrk k x)=cnt x
 mk_mk:∀k x,mrk k (mrk k x)=mrk k x
section
variable {α:Type} [GoM α]
def ka0:List α->Nat
 |[]=>0
 |x::xs=>GoM.cnt x+ka0 xs
def mkL:Int->List α->List α
 |_,[]=>[]
 |k,x::xs=>GoM.mrk k x::mkL (k+GoM.cnt x) xs
theorem zav:∀(l:List α) (k:Int),ka0 (mkL k l)=ka0 l
 |[],_=>rfl
 |x::j,k=>by simp[mkL,ka0,GoM.cnt_mk,zav j]
theorem JaE:∀(l:List α) (k:Int),mkL k (mkL k l)=mkL k l
 |[],_=>rfl
 |x::j,k=>by simp[mkL,GoM.mk_mk,GoM.cnt_mk,JaE j]
end
instance:GoM Int where
 cnt:=fun _=>1
 mrk:=fun k _=>k
 cnt_mk:=fun _ _=>rfl
 mk_mk:=fun _ _=>rfl
instance {α:Type}[GoM α]:GoM (List α) where
 cnt:=ka0
 mrk:=mkL
 cnt_mk:=fun k x=>zav x k
 mk_mk:=fun k x=>JaE x k
def Marks {α:Type}[GoT α][GoM α](w:World)(v:Value)(k:Int)(l:List α)(fp:List Pos)(e:Ending)(w':World):Prop:=
 e= .returned (.int .i64 (k+ka0 l))/\Sl BIG w' v (mkL k l) fp/\Wr fp w w'
def zag {α:Type}[GoT α](C D:Nat)(w:World)(v:Value)(l:List α):Prop:=∃fp,Sl BIG w v l fp/\Qaa C w fp/\∀p∈fp,p.1<D
theorem uaf.bd {α:Type}[GoT α]{C:Nat}{w:World}{v:Value}{l:List α}(h:uaf C w v l):zag C w.heap.size w v l:=let⟨fp,h,k⟩:=h;⟨fp,h,k,Live.lt h.live⟩
section
variable {α:Type} [GoT α] {C D:Nat} {w w':World} {v:Value} {l:List α}
theorem zag.own (h:zag C D w v l):uaf C w v l:=let⟨fp,h,k,_⟩:=h;⟨fp,h,k⟩
theorem zag.nil (C D:Nat)(w:World):zag (α:=α) C D w (.slice none 0 0) []:=⟨[],Sl.nil,⟨List.nodup_nil,fun _ h=>(by cases h),fun _ h=>(by cases h)⟩,fun _ h=>(by cases h)⟩
theorem uaf.ex {α:Type}[GoT α]{C m:Nat}{w:World}{v:Value}{l:List α}(h:uaf C w v l)(j:m<=C)(n:C<=w.heap.size):∃C' D',zag C' D' w v l/\m<=C'/\D'<=w.heap.size/\C'<=D':=
 ⟨C,w.heap.size,h.bd,j,lr _,n⟩
theorem zag.block (h:zag C D w v l)(n:∀k,C<=k->k<D->w'.heap[k]? =w.heap[k]?):zag C D w' v l:=by
 obtain⟨fp,h,k,hd⟩:=h;have hb:∀p∈fp,w'.heap[p.1]? =w.heap[p.1]? :=fun p j=>n p.1 (k.ge p j) (hd p j)
 exact⟨fp,h.keep fun p j=>World.cell?_of_block (w:=w) (a:=⟨p.1,p.2,none⟩) (hb p j),⟨k.nodup,k.ge,fun p j=>by
  rw[World.frozen?_of_block (w:=w) (a:=⟨p.1,p.2,none⟩) (hb p j)];exact k.free p j⟩,hd⟩
theorem zag.below (h:zag C D w v l)(hb:Below w.heap.size w w'):zag C D w' v l:=by
 obtain⟨fp,h,k,hd⟩:=h;have j:=Live.lt h.live;exact⟨fp,h.keep (Live.same_below hb j),k.below hb j,hd⟩
theorem zag.setCell {b o:Nat}(h:zag C D w v l)(p:b<C\/D<=b)(u:Value):zag C D (w.setCell ⟨b,o,none⟩ u) v l:=h.block fun k j n=>Below.heap_setCell w ⟨b,o,none⟩ u k (by show k≠b;omega)
theorem zag.alloc (h:zag C D w v l)(o:Obj):zag C D (w.alloc o) v l:=h.below ((lf _ _).alloc (lr _) o)
theorem zag.drew (h:zag C D w v l):zag C D w.drew v l:=h.block fun _ _ _=>rfl
theorem zag.drewN (h:zag C D w v l)(n:Nat):zag C D (w.drewN n) v l:=h.block fun _ _ _=>rfl
theorem Qaa.join {B:Nat}{f1 f2:List Pos}(n:Qaa B w f1)(u:Qaa B w f2)(hd:∀p∈f1,∀q∈f2,p≠q):Qaa B w (f1++f2):=by
 refine⟨ln.2 ⟨n.nodup,u.nodup,hd⟩,fun p j=> ?_,fun p j=> ?_⟩<;>rcases lm.1 j with j|j
 ·exact n.ge p j
 ·exact u.ge p j
 ·exact n.free p j
 ·exact u.free p j
theorem Qaa.left {B:Nat}{f1 f2:List Pos}(h:Qaa B w (f1++f2)):Qaa B w f1:=⟨(ln.1 h.nodup).1,fun p j=>h.ge p (lm.2 (.inl j)),fun p j=>h.free p (lm.2 (.inl j))⟩
theorem Qaa.right {B:Nat}{f1 f2:List Pos}(h:Qaa B w (f1++f2)):Qaa B w f2:=⟨(ln.1 h.nodup).2.1,fun p j=>h.ge p (lm.2 (.inr j)),fun p j=>h.free p (lm.2 (.inr j))⟩
theorem Qaa.nil (B:Nat)(w:World):Qaa B w []:=⟨List.nodup_nil,fun _ h=>(by cases h),fun _ h=>(by cases h)⟩
end
theorem xah {w:World}{u:List Value}{x:zaa}(h:Rd w u x):∃j,u=[.int .i64 x.kind,.int .i64 x.n,j]/\RdS w j x.signs:=by
 obtain⟨fp,h⟩:=h;obtain⟨j,q,rfl,p,rfl⟩:=h;exact⟨j,rfl,⟨_,p⟩⟩
theorem qag {w:World}{p:List Value}{x:yab}(h:Rd w p x):∃j,p=[.int .i64 x.client,.int .i64 x.seq,j]/\RdS w j x.o:=by
 obtain⟨fp,h⟩:=h;obtain⟨j,q,rfl,n,rfl⟩:=h;exact⟨j,rfl,⟨_,n⟩⟩
theorem JaP {C:Nat}{w:World}{p:List Value}{x:yab}(h:Own C w p x):∃j,p=[.int .i64 x.client,.int .i64 x.seq,j]/\uaf C w j x.o:=by
 obtain⟨fp,h,k⟩:=h;obtain⟨j,q,rfl,n,rfl⟩:=h;exact⟨j,rfl,⟨_,n,k⟩⟩
theorem xam {w:World}{j:List Value}{x:qac}(h:Rd w j x):j=[.int .i64 x.client,.int .i64 x.seq,.int .i64 x.rev]:=by
 obtain⟨fp,h⟩:=h;obtain⟨rfl,rfl⟩:=h;exact rfl
theorem Kai {w:World}{M:List Value}{x:Xac}(h:Rd w M x):∃p j n,M=[.string x.name,.int .i64 x.from_,p,j,n]/\x.name.size<=BIG/\RdS w p x.text/\RdS w j x.list/\RdS w n x.seen:=by
 obtain⟨fp,h⟩:=h;obtain⟨p,j,n,J,D,I,rfl,B,z,q,u,rfl⟩:=h;exact⟨p,j,n,rfl,B,⟨_,z⟩,⟨_,q⟩,⟨_,u⟩⟩
theorem ua5 {B C0 D0 C1 D1 C2 D2:Nat}{w:World}(x:Xac){z:Value}{n:Value}{u:Value}(a1:x.name.size<=BIG)(Y:zag C0 D0 w z x.text)(R:zag C1 D1 w n x.list)(U:zag C2 D2 w u x.seen)(e0:D0<=C1)(e1:D1<=C2)(m1:C1<=D1)(g0:B<=C0)(g1:B<=C1)(g2:B<=C2):Own B w [.string x.name,.int .i64 x.from_,z,n,u] x:=by
 obtain⟨Q,a4,a0,D⟩:=Y;obtain⟨M,a2,I,J⟩:=R;obtain⟨N,a3,j,d_seen⟩:=U;exact⟨_,⟨z,n,u,Q,M,N,rfl,a1,a4,a2,a3,rfl⟩,((a0.mono g0).join ((I.mono g1).join (j.mono g2) (fun p hp q Z e=>by subst e;(try simp only[lm]at hp);(try simp only[lm]at Z);(first|(have:=J _ hp;have:=j.ge _ Z;omega)))) (fun p hp q Z e=>by subst e;(try simp only[lm]at hp);(try simp only[lm]at Z);rcases Z with Z|Z<;>(first|(have:=D _ hp;have:=I.ge _ Z;omega)|(have:=D _ hp;have:=j.ge _ Z;omega))))⟩
theorem Qae {C:Nat}{w:World}{q:List Value}{x:vac}(h:Own C w q x):∃j,q=[.int .i64 x.cap,.int .i64 x.next,.bool x.out,j]/\uaf C w j x.list:=by
 obtain⟨fp,h,k⟩:=h;obtain⟨j,p,rfl,n,rfl⟩:=h;exact⟨j,rfl,⟨_,n,k⟩⟩
theorem xap {w:World}{z:List Value}{x:yai}(h:Rd w z x):∃j,z=[.int .i64 x.id,.string x.doc,.int .i64 x.r.cap,.int .i64 x.r.next,.bool x.r.out,j]/\x.doc.size<=BIG/\RdS w j x.r.list:=by
 obtain⟨fp,h⟩:=h;obtain⟨B,D,rfl,p,u,rfl⟩:=h;obtain⟨j,q,rfl,n,rfl⟩:=u;exact⟨j,rfl,p,⟨_,n⟩⟩
theorem Qbe {B C0 D0:Nat}{w:World}(x:yai){j:Value}(z:x.doc.size<=BIG)(p:zag C0 D0 w j x.r.list)(I:B<=C0):Own B w [.int .i64 x.id,.string x.doc,.int .i64 x.r.cap,.int .i64 x.r.next,.bool x.r.out,j] x:=by
 obtain⟨n,u,q,D⟩:=p;exact⟨_,⟨_,_,rfl,z,⟨j,n,rfl,u,rfl⟩,rfl⟩,(q.mono I)⟩
theorem ubd {B C0 D0 C1 D1:Nat}{w:World}(x:qae){j:Value}{n:Value}(J:zag C0 D0 w j x.docs)(M:zag C1 D1 w n x.subs)(e0:D0<=C1)(g0:B<=C0)(g1:B<=C1):Own B w [.bool x.shut,j,n,.int .i64 x.last] x:=by
 obtain⟨D,Q,N,z⟩:=J;obtain⟨I,R,u,U⟩:=M;exact⟨_,⟨j,n,D,I,rfl,Q,R,rfl⟩,((N.mono g0).join (u.mono g1) (fun p Y q Z e=>by subst e;(try simp only[lm]at Y);(try simp only[lm]at Z);(first|(have:=z _ Y;have:=u.ge _ Z;omega))))⟩
theorem Jbb {w:World}{D:List Value}{x:Jag}(h:Rd w D x):∃q j,D=[.int .i64 x.kind,.string x.doc,.int .i64 x.client,.int .i64 x.seq,.int .i64 x.n,q,j]/\x.doc.size<=BIG/\RdS w q x.o/\RdS w j x.text:=by
 obtain⟨fp,h⟩:=h;obtain⟨q,j,I,z,rfl,u,B,p,rfl⟩:=h;exact⟨q,j,rfl,u,⟨_,B⟩,⟨_,p⟩⟩

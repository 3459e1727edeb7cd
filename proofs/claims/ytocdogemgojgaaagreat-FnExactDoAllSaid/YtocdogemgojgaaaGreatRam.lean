/- What the program's functions on documents compute, in plain Lean. -/
import Derived.Test.YtocdogemgojgaaaGreatRak
import Derived.Test.YtocdogemgojgaaaGreatRal
set_option maxHeartbeats 1000000
namespace Go.Proofs.YtocdogemgojgaaaGreat
open Go.RowKit
def yaa (d:Jac):Int:=d.from_+d.list.length
def Kao (hd:Int)(l:List Zab)(i:Nat)(s:Zab):Bool:=
 within s.client 1 8&&within s.seq 1 1000000000&&within s.rev 1 hd&&(match i with
  |0=>true
  |j+1=>(match l[j]? with
   |some p=>decide (p.client<s.client)
   |none=>true))
def yat (hd:Int)(l:List Zab):Bool:=(List.range l.length).all fun i=>match l[i]? with
 |some s=>Kao hd l i s
 |none=>true
theorem zak {hd:Int}{l:List Zab}:yat hd l=true↔∀j y,l[j]? =some y->Kao hd l j y=true:=by
 unfold yat;rw[List.all_eq_true];constructor
 ·intro h j y hy;have:=h j (List.mem_range.2 (lg.1 hy).1);rw[hy]at this;exact this
 ·intro h i hi;obtain⟨x,n⟩:=jaa (List.mem_range.1 hi);rw[n];exact h i x n
theorem Jam {hd:Int}{l:List Zab}{k:Nat}{s:Zab}(h:l[k]? =some s)(j:Kao hd l k s=false):yat hd l=false:=by
 rw[Bool.eq_false_iff];intro n;rw[zak.1 n k s h]at j;cases j
theorem xbd {hd:Int}{l:List Zab}(h:∀j<l.length,∀y,l[j]? =some y->Kao hd l j y=true):yat hd l=true:=
 zak.2 fun j y hy=>h j (lg.1 hy).1 y hy
theorem QaG {hd:Int}{l:List Zab}{s:Zab}(j:within s.client 1 8=true)(n:within s.seq 1 1000000000=true)(p:within s.rev 1 hd=true):Kao hd l 0 s=true:=by simp[Kao,j,n,p]
theorem vaG {hd:Int}{l:List Zab}{j:Nat}{s p:Zab}(B:l[j]? =some p)(n:within s.client 1 8=true)(q:within s.seq 1 1000000000=true)(u:within s.rev 1 hd=true)(z:p.client<s.client):Kao hd l (j+1) s=true:=by
 simp[Kao,n,q,u,B,z]
theorem va3 {hd:Int}{l:List Zab}{i:Nat}{s:Zab}(h:within s.client 1 8=false):Kao hd l i s=false:=by simp[Kao,h]
theorem KaL {hd:Int}{l:List Zab}{i:Nat}{s:Zab}(h:within s.seq 1 1000000000=false):Kao hd l i s=false:=by simp[Kao,h]
theorem qaQ {hd:Int}{l:List Zab}{i:Nat}{s:Zab}(h:within s.rev 1 hd=false):Kao hd l i s=false:=by simp[Kao,h]
theorem Za1 {hd:Int}{l:List Zab}{j:Nat}{s p:Zab}(n:l[j]? =some p)(h:¬p.client<s.client):Kao hd l (j+1) s=false:=by simp[Kao,n,h]
theorem xa7 {hd:Int}{l:List Zab}(h:yat hd l=true):∀(n i:Nat) (x y:Zab),l[i]? =some x->l[i+n+1]? =some y->x.client+n<y.client
 |0,i,x,y,j,hy=>by
  have:=zak.1 h (i+1) y (by simpa using hy)
  simp[Kao,j]at this;have:=this.2;omega
 |n+1,i,x,y,j,hy=>by
  have q:=(lg.1 hy).1;obtain⟨z,p⟩:=jaa (l:=l) (k:=i+n+1) om;have u:=xa7 h n i x z j p;have:=zak.1 h (i+n+1+1) y (by rw[<-hy];congr 1)
  simp[Kao,p]at this;have:=this.2;omega
theorem Kbj {hd:Int}{l:List Zab}(h:yat hd l=true):l.length<=8:=by
 by_cases u:8<l.length
 ·obtain⟨x,j⟩:=jaa (l:=l) (k:=0) om;obtain⟨y,hy⟩:=jaa (l:=l) (k:=8) om;have q:=xa7 h 7 0 x y j hy;have n:=zak.1 h 0 x j;have p:=zak.1 h 8 y hy;simp[Kao,within]at n p;omega
 ·omega
def xar (l:List xab):List (List zaa):=l.map xab.o
def zae (d:Jac):Bool:=Xak d.name&&within d.from_ 0 999999000&&uae d.text&&decide (d.list.length<=8)&&d.list.all Kac&&(Xai (xar d.list) d.text).isSome&&yat (yaa d) d.seen
structure qbl (d:Jac):Prop where
 name:Xak d.name=true
 f0:0<=d.from_
 f1:d.from_<=999999000
 text:uae d.text=true
 len:d.list.length<=8
 ents:d.list.all Kac=true
 app:∃t,Xai (xar d.list) d.text=some t
 seen:yat (yaa d) d.seen=true
theorem Xaf {d:Jac}:zae d=true↔qbl d:=by
 constructor
 ·intro h;simp only[zae,Bool.and_eq_true,within_iff,decide_eq_true_eq,Option.isSome_iff_exists]at h;obtain⟨⟨⟨⟨⟨⟨n,j⟩,p⟩,q⟩,u⟩,z⟩,B⟩:=h;exact⟨n,j.1,j.2,p,q,u,z,B⟩
 ·intro h;simp only[zae,Bool.and_eq_true,within_iff,decide_eq_true_eq,Option.isSome_iff_exists];exact⟨⟨⟨⟨⟨⟨h.name,h.f0,h.f1⟩,h.text⟩,h.len⟩,h.ents⟩,h.app⟩,h.seen⟩
theorem xbo {o:List zaa}(h:Qag o=true):szL o<=1000:=by
 obtain⟨j,q,_,u⟩:=zan.1 h;have:∀{o:List zaa},o.all vab=true->(szs o:Int)<=Qab 3 o:=by
  intro o;induction o with
  |nil=>intro _;simp[szs,Qab]
  |cons p o n=>
   intro h;simp only[List.all_cons,Bool.and_eq_true]at h;have i:=n h.2;have e:szs (p::o)=szL p.signs+szs o:=rfl;rw[e,qaw];simp only[Qab];rcases Jab h.1 with⟨k,a,b,c⟩|⟨k,a,b,_⟩|⟨k,a,b,c⟩
   ·rw[k,c];simp[yaf,c];omega
   ·rw[k];simp[yaf,a];omega
   ·rw[k,c];simp;omega
 have:=this j;unfold szL;omega
theorem Xbk {e:xab}(h:Kac e=true):Qag e.o=true/\Kak e.o=e.o:=by
 simp only[Kac,Bool.and_eq_true]at h;exact zaT.1 h.2
theorem jaH:∀{l:List xab},l.all Kac=true->szL l<=1001*l.length
 |[],_=>by simp[szL,szs]
 |e::l,h=>by
  simp only[List.all_cons,Bool.and_eq_true]at h;have n:=jaH h.2;have:=xbo (Xbk h.1).1;have j:szL (e::l)=1+szL e.o+szL l:=by simp only[szL,szs,List.length_cons];have:GoS.sz e=szL e.o:=rfl;unfold szL at this;omega
  rw[j,List.length_cons];omega
theorem qbl.sz {d:Jac}(h:qbl d):szL d.list<=9000:=by have:=jaH h.ents;have:=h.len;omega
theorem qbl.tlen {d:Jac}(h:qbl d):d.text.length<=200:=(yao.1 h.text).1
theorem qbl.slen {d:Jac}(h:qbl d):d.seen.length<=8:=Kbj h.seen
theorem Qbc {l:List (List zaa)}{t u:List Int}(j:uae t=true)(h:Xai l t=some u):uae u=true:=by
 induction l generalizing t with
 |nil=>cases h;exact j
 |cons o l n=>
  unfold Xai at h;rw[List.foldl_cons]at h;by_cases hy:(yab o t).2=true
  ·have e:yaX (some t) o=some (yab o t).1:=if_pos hy;rw[e]at h;exact n (Qap hy).1 h
  ·have e:yaX (some t) o=none:=if_neg hy;rw[e,yas]at h;cases h
theorem Jay (l m:List (List zaa))(t:List Int):Xai (l++m) t=(Xai l t).bind (Xai m):=by
 unfold Xai;rw[List.foldl_append];cases l.foldl yaX (some t)with
 |none=>exact yas m
 |some u=>rfl
theorem vaS {l:List (List zaa)}{t u:List Int}(h:Xai l t=some u)(k:Nat):∃v,Xai (l.take k) t=some v/\Xai (l.drop k) v=some u:=by
 rw[<-List.take_append_drop k l,Jay]at h;cases j:Xai (l.take k) t with
 |none=>rw[j]at h;cases h
 |some v=>rw[j]at h;exact⟨v,rfl,h⟩
theorem vbf (l:List xab)(k:Nat):xar (l.take k)=(xar l).take k:=by simp[xar]
theorem qbg (l:List xab)(k:Nat):xar (l.drop k)=(xar l).drop k:=by simp[xar]
theorem vaV {l:List xab}{k:Nat}{e:xab}(h:l[k]? =some e):(xar l)[k]? =some e.o:=by simp[xar,h]
def Za6 (d:Jac)(rev:Int):Nat:=(rev-d.from_).toNat
def jav (d:Jac)(rev:Int):Prop:=zae d=true/\d.from_<=rev/\rev<=yaa d
instance (d:Jac)(rev:Int):Decidable (jav d rev):=inferInstanceAs (Decidable (_/\_/\_))
def zaq (d:Jac)(rev:Int):List Int×Bool:=if jav d rev then((Xai ((xar d.list).take (Za6 d rev)) d.text).getD [],true)else([],false)
def Kad (d:Jac):List Int:=(zaq d (yaa d)).1
def Kaj (d:Jac)(rev:Int):List (List zaa)×Bool:=if jav d rev then(xar (d.list.drop (Za6 d rev)),true)else([],false)
def Qaq (d:Jac)(rev:Int):Int:=if yaa d<rev then 2 else if rev<d.from_ then 3 else 0
def zar (d:Jac)(rev:Int):List xab×Int:=if zae d=true then(if yaa d<rev then([],2)else if rev<d.from_ then([],3)else(d.list.drop (Za6 d rev),0))else([],1)
def ZaY:Jac:=⟨⟨#[]⟩,0,[],[],[]⟩
def Qat (name:ByteArray)(t:List Int):Jac×Bool:=if zae ⟨name,0,t,[],[]⟩=true then(⟨name,0,t,[],[]⟩,true)else(ZaY,false)
theorem jbh {d:Jac}{rev:Int}(h:jav d rev):Za6 d rev<=d.list.length/\rev=d.from_+Za6 d rev:=by
 unfold jav yaa at h;unfold Za6;omega
theorem QaD {d:Jac}{rev:Int}(h:¬jav d rev):zaq d rev=([],false):=if_neg h
theorem Xaz {d:Jac}{rev:Int}(h:jav d rev):∃u,Xai ((xar d.list).take (Za6 d rev)) d.text=some u/\zaq d rev=(u,true)/\uae u=true:=by
 have n:=Xaf.1 h.1;obtain⟨t,p⟩:=n.app;obtain⟨u,j,_⟩:=vaS p (Za6 d rev);exact⟨u,j,by unfold zaq;rw[if_pos h,j];rfl,Qbc n.text j⟩
theorem yaT (d:Jac)(rev:Int):(zaq d rev).1.length<=200:=by
 by_cases h:jav d rev
 ·obtain⟨u,_,e,j⟩:=Xaz h;rw[e];exact(yao.1 j).1
 ·rw[QaD h];simp
theorem QaM {d:Jac}{rev:Int}(h:¬jav d rev):Kaj d rev=([],false):=if_neg h
theorem uay {d:Jac}{rev:Int}(h:jav d rev):Kaj d rev=(xar (d.list.drop (Za6 d rev)),true):=if_pos h
theorem Zag {d:Jac}(h:zae d=true):0<=yaa d/\yaa d<=999999008/\0<=d.from_/\d.from_<=999999000:=by
 have j:=Xaf.1 h;have:=j.f0;have:=j.f1;have:=j.len;unfold yaa;omega
theorem ybb {d:Jac}(h:zae d=true):jav d (yaa d):=⟨h,by unfold yaa;omega,Int.le_refl _⟩
end Go.Proofs.YtocdogemgojgaaaGreat
namespace Go.Proofs.YtocdogemgojgaaaGreat
open Go.RowKit
def firstIdx {α:Type}(p:α->Bool)(l:List α):Int:=match l.findIdx? p with|some k=>k|none=> -1
theorem xax {α:Type}{p:α->Bool}{l:List α}{k:Nat}{x:α}(u:∀j<k,∀y,l[j]? =some y->p y=false)(q:l[k]? =some x)(B:p x=true):firstIdx p l=k:=by
 have z:=(lg.1 q).1;have:l.findIdx? p=some k:=by
  rw[List.findIdx?_eq_some_iff_getElem];obtain⟨_,e⟩:=lg.1 q;refine⟨z,by rw[e];exact B,fun j n=> ?_⟩
  rw[u j n _ (List.getElem?_eq_getElem om)];decide
 unfold firstIdx;rw[this]
theorem vaw {α:Type}{p:α->Bool}{l:List α}(q:∀j<l.length,∀y,l[j]? =some y->p y=false):firstIdx p l= -1:=by
 have:l.findIdx? p=none:=by
  rw[List.findIdx?_eq_none_iff];intro x u;obtain⟨j,n,e⟩:=List.mem_iff_getElem.1 u;exact q j n x (by rw[List.getElem?_eq_getElem n,e])
 unfold firstIdx;rw[this]
theorem kaL {α:Type}{p:α->Bool}{l:List α}{k:Nat}{x:α}(z:l[k]? =some x)(u:p x=false)(n:∀j<k,∀y,l[j]? =some y->p y=false):∀j<k+1,∀y,l[j]? =some y->p y=false:=by
 intro j q y hy;by_cases e:j=k
 ·subst e;rw[z]at hy;cases hy;exact u
 ·exact n j om y hy
theorem QaC {α:Type}(p:α->Bool)(l:List α): -1<=firstIdx p l/\firstIdx p l<l.length:=by
 unfold firstIdx;cases h:l.findIdx? p with
 |none=>simp;omega
 |some k=>
  obtain⟨j,_⟩:=List.findIdx?_eq_some_iff_getElem.1 h;simp;omega
def xae (x:vaf)(name:ByteArray):Int:=firstIdx (fun d=>decide (d.name=name)) x.docs
def yam (x:vaf)(id:Int):Int:=firstIdx (fun d=>decide (d.id=id)) x.subs
theorem vam (z:vaf)(p:Value)(D:Value)(name:ByteArray)(w:World)(n:RdS w p z.docs):
 Calls Tryz.prog 103 #[.agg #[z.shut,p,D,z.last],name] w (uac w (.int .i64 (xae z name))):=by
 have hl:=fun w1 ty=>n.len Tryz.underlying23 w1 ty
 have ba:=n.le;go_enter Tryz.func103,Tryz.ntmps103
 go_wp2;go_loopw [10] (fun i wr=>∃k:Nat,k<=z.docs.length/\i= .int .i64 k/\(∀j<k,∀y,z.docs[j]? =some y->(decide (y.name=name))=false)/\Below w w wr) (fun i _=>z.docs.length-(intOf i).toNat)
 case atStart=>exact⟨0,lz _,rfl,fun _ h=>absurd h (Nat.not_lt_zero _),blw⟩
 case round=>
  obtain⟨k,hk,rfl,hj,Z⟩:=hrel;have hsz:=Z.size;have HJ:=hH hj;clear hj;by_cases hlt:k<z.docs.length
  ·obtain⟨x,hx⟩:=jaa hlt;obtain⟨b1,o1,cs,h1,Y,h3⟩:=(n.below Z).idx Tryz.underlying23 uah k hx;obtain⟨a2,a0,a1,rfl,_,B,q,u⟩:=qai h3;have q0:=Y.zero;have q1:=Y 1 _ rfl;have q2:=Y 2 _ rfl;have q3:=Y 3 _ rfl;have q4:=Y 4 _ rfl;have l1:b1<wr.heap.size:=lk (w:=wr) (a:=⟨b1,o1,none⟩) q0;obtain⟨M,R,rfl⟩:=B.isSlice;obtain⟨I,N,rfl⟩:=q.isSlice;obtain⟨J,Q,rfl⟩:=u.isSlice;have HX:=hH hx;clear hx;by_cases e:x.name=name
   ·have e1:(x.name.toList==name.toList)=true:=xbk e;have U:decide (x.name=name)=true:=uaw e;have HN:Hid (xae z name=k):=hH (xax HJ.out HX.out U);clear e U;go_wp2;go_ret;exact⟨Xab HN.out.symm,blw⟩
   ·have e1:(x.name.toList==name.toList)=false:=xaR e;have U:decide (x.name=name)=false:=zao e;have E2:=hH U;clear e U;go_wp2;go_roundw
    case rel=>exact⟨k+1,by omega,by go_num,kaL HX.out E2.out HJ.out,blw⟩
    case measure=>simp[intOf];omega
  ·have HN:Hid (xae z name= -1):=hH (vaw fun j hj=>HJ.out j om)
   go_wp2;go_ret;exact⟨Xab HN.out.symm,blw⟩
theorem xaE (z:vaf)(u:Value)(p:Value)(id:Int)(w:World)(n:RdS w p z.subs):
 Calls Tryz.prog 153 #[.agg #[z.shut,u,p,z.last],id] w (uac w (.int .i64 (yam z id))):=by
 have hl:=fun w1 ty=>n.len Tryz.underlying24 w1 ty
 have ba:=n.le;go_enter Tryz.func153,Tryz.ntmps153
 go_wp2;go_loopw [10] (fun i wr=>∃k:Nat,k<=z.subs.length/\i= .int .i64 k/\(∀j<k,∀y,z.subs[j]? =some y->(decide (y.id=id))=false)/\Below w w wr) (fun i _=>z.subs.length-(intOf i).toNat)
 case atStart=>exact⟨0,lz _,rfl,fun _ h=>absurd h (Nat.not_lt_zero _),blw⟩
 case round=>
  obtain⟨k,hk,rfl,U,N⟩:=hrel;have hsz:=N.size;have Q:=hH U;clear U;by_cases Y:k<z.subs.length
  ·obtain⟨x,Z⟩:=jaa Y;obtain⟨b1,o1,cs,h1,I,h3⟩:=(n.below N).idx Tryz.underlying24 vaj k Z;obtain⟨J,rfl,_,q⟩:=qan h3;have q0:=I.zero;have q1:=I 1 _ rfl;have q2:=I 2 _ rfl;have q3:=I 3 _ rfl;have q4:=I 4 _ rfl;have q5:=I 5 _ rfl;have l1:b1<wr.heap.size:=lk (w:=wr) (a:=⟨b1,o1,none⟩) q0;obtain⟨B,D,rfl⟩:=q.isSlice;have HX:=hH Z;clear Z;by_cases e:x.id=id
   ·have e1:(x.id==id)=true:=by simpa using e
    have M:decide (x.id=id)=true:=uaw e;have R:Hid (yam z id=k):=hH (xax Q.out HX.out M);clear e M;go_wp2;go_ret;exact⟨Xab R.out.symm,blw⟩
   ·have e1:(x.id==id)=false:=by simpa using e
    have M:decide (x.id=id)=false:=zao e;have E2:=hH M;clear e M;go_wp2;go_roundw
    case rel=>exact⟨k+1,by omega,by go_num,kaL HX.out E2.out Q.out,blw⟩
    case measure=>simp[intOf];omega
  ·have R:Hid (yam z id= -1):=hH (vaw fun j U=>Q.out j om)
   go_wp2;go_ret;exact⟨Xab R.out.symm,blw⟩
theorem ZaE (x:Jac)(p:Value)(j:Value)(n:Value)(name:ByteArray)(w:World)(g o:Nat)(u:w.cell? ⟨g,o,none⟩=some (.string name)):
 Calls Tryz.prog 132 #[.agg #[x.name,x.from_,p,j,n],.pointer (some ⟨g,o,none⟩)] w (uac w (.bool (decide (x.name=name)))):=by
 have z:=lk (w:=w) (a:=⟨g,o,none⟩) u;by_cases e:x.name=name
 ·rw[uaw e];have q:(x.name.toList==name.toList)=true:=xbk e;clear e;go_enter Tryz.func132,Tryz.ntmps132
  go_wp2;go_ret;exact⟨rfl,blw⟩
 ·rw[zao e];have q:(x.name.toList==name.toList)=false:=xaR e;clear e;go_enter Tryz.func132,Tryz.ntmps132
  go_wp2;go_ret;exact⟨rfl,blw⟩
theorem Kay (v:Value)(l:List Jac)(name:ByteArray)(w:World)(g o:Nat)(hg:w.cell? ⟨g,o,none⟩=some (.string name))(h:RdS w v l):
 Calls Tryz.prog 131 #[v,.func (.func 132) #[] #[.pointer (some ⟨g,o,none⟩)]] w (uac w (.int .i64 (firstIdx (fun d=>decide (d.name=name)) l))):=by
 have hl:=fun w1 ty=>h.len Tryz.underlying23 w1 ty
 have ba:=h.le;have hgl:=lk (w:=w) (a:=⟨g,o,none⟩) hg;go_enter Tryz.func131,Tryz.ntmps131
 go_wp2;go_loopw [8] (fun i wr=>∃k:Nat,k<=l.length/\i= .int .i64 k/\(∀j<k,∀y,l[j]? =some y->(decide (y.name=name))=false)/\Below w w wr) (fun i _=>l.length-(intOf i).toNat)
 case atStart=>exact⟨0,lz _,rfl,fun _ h=>absurd h (Nat.not_lt_zero _),blw⟩
 case round=>
  obtain⟨k,hk,rfl,hj,B⟩:=hrel;have hsz:=B.size;have HJ:=hH hj;clear hj;have U:wr.cell? ⟨g,o,none⟩=some (.string name):=(B.cell (p:=⟨g,o,none⟩) hgl).trans hg;by_cases hlt:k<l.length
  ·obtain⟨x,hx⟩:=jaa hlt;obtain⟨b1,o1,cs,h1,R,h3⟩:=(h.below B).idx Tryz.underlying23 uah k hx;obtain⟨a0,Y,Z,rfl,_,u,n,q⟩:=qai h3;have q0:=R.zero;have q1:=R 1 _ rfl;have q2:=R 2 _ rfl;have q3:=R 3 _ rfl;have q4:=R 4 _ rfl;have l1:b1<wr.heap.size:=lk (w:=wr) (a:=⟨b1,o1,none⟩) q0;obtain⟨J,Q,rfl⟩:=u.isSlice;obtain⟨D,M,rfl⟩:=n.isSlice;obtain⟨I,N,rfl⟩:=q.isSlice;have HX:=hH hx;clear hx;by_cases e:x.name=name
   ·have z:decide (x.name=name)=true:=uaw e;have HN:Hid (firstIdx (fun d=>decide (d.name=name)) l=k):=hH (xax HJ.out HX.out z)
    clear e;go_wp2_with fail
    refine(ZaE x _ _ _ name _ g o U).mono ?_;rintro e w1 ⟨rfl,hb1⟩;rw[z];clear z;go_wp2;go_ret;exact⟨Xab HN.out.symm,blw⟩
   ·have z:decide (x.name=name)=false:=zao e;clear e;go_wp2_with fail
    refine(ZaE x _ _ _ name _ g o U).mono ?_;rintro e w1 ⟨rfl,hb1⟩;rw[z];have E2:=hH z;clear z;go_wp2;go_roundw
    case rel=>exact⟨k+1,by omega,by go_num,kaL HX.out E2.out HJ.out,blw⟩
    case measure=>simp[intOf];omega
  ·have HN:Hid (firstIdx (fun d=>decide (d.name=name)) l= -1):=hH (vaw fun j hj=>HJ.out j om)
   go_wp2;go_ret;exact⟨Xab HN.out.symm,blw⟩
theorem qam (z:vaf)(j:Value)(p:Value)(name:ByteArray)(w:World)(n:RdS w j z.docs):
 Calls Tryz.prog 58 #[.agg #[z.shut,j,p,z.last],name] w (uac w (.int .i64 (xae z name))):=by
 go_enter Tryz.func58,Tryz.ntmps58
 go_wp2_with fail
 refine(Kay _ z.docs name _ (w+1) 0 sm (n.below blw)).mono ?_;rintro e u ⟨rfl,q⟩;go_wp2;go_ret;exact⟨rfl,blw⟩
theorem uaF (x:kah)(j:Value)(id:Int)(w:World)(g o:Nat)(p:w.cell? ⟨g,o,none⟩=some (.int .i64 id)):
 Calls Tryz.prog 178 #[.agg #[x.id,x.doc,x.r.cap,x.r.next,x.r.out,j],.pointer (some ⟨g,o,none⟩)] w (uac w (.bool (decide (x.id=id)))):=by
 have q:=lk (w:=w) (a:=⟨g,o,none⟩) p;by_cases e:x.id=id
 ·rw[uaw e];have n:(x.id==id)=true:=by simpa using e
  clear e;go_enter Tryz.func178,Tryz.ntmps178
  go_wp2;go_ret;exact⟨rfl,blw⟩
 ·rw[zao e];have n:(x.id==id)=false:=by simpa using e
  clear e;go_enter Tryz.func178,Tryz.ntmps178
  go_wp2;go_ret;exact⟨rfl,blw⟩
theorem kaz (v:Value)(l:List kah)(id:Int)(w:World)(g o:Nat)(hg:w.cell? ⟨g,o,none⟩=some (.int .i64 id))(h:RdS w v l):
 Calls Tryz.prog 177 #[v,.func (.func 178) #[] #[.pointer (some ⟨g,o,none⟩)]] w (uac w (.int .i64 (firstIdx (fun d=>decide (d.id=id)) l))):=by
 have hl:=fun w1 ty=>h.len Tryz.underlying24 w1 ty
 have ba:=h.le;have R:=lk (w:=w) (a:=⟨g,o,none⟩) hg;go_enter Tryz.func177,Tryz.ntmps177
 go_wp2;go_loopw [8] (fun i wr=>∃k:Nat,k<=l.length/\i= .int .i64 k/\(∀j<k,∀y,l[j]? =some y->(decide (y.id=id))=false)/\Below w w wr) (fun i _=>l.length-(intOf i).toNat)
 case atStart=>exact⟨0,lz _,rfl,fun _ h=>absurd h (Nat.not_lt_zero _),blw⟩
 case round=>
  obtain⟨k,hk,rfl,U,B⟩:=hrel;have hsz:=B.size;have M:=hH U;clear U;have J:wr.cell? ⟨g,o,none⟩=some (.int .i64 id):=(B.cell (p:=⟨g,o,none⟩) R).trans hg;by_cases Y:k<l.length
  ·obtain⟨x,Z⟩:=jaa Y;obtain⟨b1,o1,cs,h1,D,h3⟩:=(h.below B).idx Tryz.underlying24 vaj k Z;obtain⟨I,rfl,_,n⟩:=qan h3;have q0:=D.zero;have q1:=D 1 _ rfl;have q2:=D 2 _ rfl;have q3:=D 3 _ rfl;have q4:=D 4 _ rfl;have q5:=D 5 _ rfl;have l1:b1<wr.heap.size:=lk (w:=wr) (a:=⟨b1,o1,none⟩) q0;obtain⟨q,u,rfl⟩:=n.isSlice;have HX:=hH Z;clear Z;by_cases e:x.id=id
   ·have z:decide (x.id=id)=true:=uaw e;have N:Hid (firstIdx (fun d=>decide (d.id=id)) l=k):=hH (xax M.out HX.out z)
    clear e;go_wp2_with fail
    refine(uaF x _ id _ g o J).mono ?_;rintro e w1 ⟨rfl,Q⟩;rw[z];clear z;go_wp2;go_ret;exact⟨Xab N.out.symm,blw⟩
   ·have z:decide (x.id=id)=false:=zao e;clear e;go_wp2_with fail
    refine(uaF x _ id _ g o J).mono ?_;rintro e w1 ⟨rfl,Q⟩;rw[z];have E2:=hH z;clear z;go_wp2;go_roundw
    case rel=>exact⟨k+1,by omega,by go_num,kaL HX.out E2.out M.out,blw⟩
    case measure=>simp[intOf];omega
  ·have N:Hid (firstIdx (fun d=>decide (d.id=id)) l= -1):=hH (vaw fun j U=>M.out j om)
   go_wp2;go_ret;exact⟨Xab N.out.symm,blw⟩
theorem QaE (z:vaf)(p:Value)(j:Value)(id:Int)(w:World)(n:RdS w j z.subs):
 Calls Tryz.prog 112 #[.agg #[z.shut,p,j,z.last],id] w (uac w (.int .i64 (yam z id))):=by
 go_enter Tryz.func112,Tryz.ntmps112
 go_wp2_with fail
 refine(kaz _ z.subs id _ (w+1) 0 sm (n.below blw)).mono ?_;rintro e u ⟨rfl,q⟩;go_wp2;go_ret;exact⟨rfl,blw⟩

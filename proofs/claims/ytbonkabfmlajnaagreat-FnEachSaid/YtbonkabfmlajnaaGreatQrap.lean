/- Calls that are in order: what the reference asks; a call with the fields alone that its kind uses. -/
import Derived.Test.YtbonkabfmlajnaaGreatQrad
import Derived.Test.YtbonkabfmlajnaaGreatQrae
set_option maxHeartbeats 8000000
set_option maxRecDepth 100000
namespace Go.Proofs.YtbonkabfmlajnaaGreat
open Go.RowKit
def vao (k:Int):Bool:=within k 1 5
def Jaf (c:Jag):Jag:=
 ⟨c.kind,if vao c.kind=true then c.doc else ByteArray.empty,if c.kind=2\/c.kind=6\/c.kind=7 then c.client else 0,if c.kind=2 then c.seq else 0,
  if c.kind=2\/c.kind=3\/c.kind=5\/c.kind=6 then c.n else 0,if c.kind=2 then c.o else[],if c.kind=1 then c.text else[]⟩
def xac (c:Jag):Bool:=within c.kind 1 8&&decide (c.doc.size<=8)&&Xag c.o&&jae c.text&&decide (c=Jaf c)
theorem KaM {c:Jag}(j:within c.kind 1 8=true)(n:c.doc.size<=8)(p:Xag c.o=true)(q:jae c.text=true):xac c=decide (c=Jaf c):=by simp[xac,j,n,p,q]
theorem kinds {k:Int}(h:within k 1 8=true):k=1\/k=2\/k=3\/k=4\/k=5\/k=6\/k=7\/k=8:=by
 rw[within_iff]at h;omega
theorem uaT {d:ByteArray}(h:d=ByteArray.empty):(d.toList==[])=true:=by rw[h];simp
theorem ZaW (k:Int)(w:World):Calls Tryz.prog 62 #[k] w (yae w (.bool (vao k))):=by
 go_enter Tryz.func62,Tryz.ntmps62
 go_wp2_with fail
 refine(Zaa k 1 5 _).mono ?_;rintro e n ⟨rfl,j⟩;go_wp2;go_ret;exact⟨rfl,blw⟩
theorem KaW (k:Int)(w:World):Calls Tryz.prog 74 #[k] w (yae w (.bool (vao k))):=by
 go_enter Tryz.func74,Tryz.ntmps74
 go_wp2_with fail
 refine(vaa k 1 5 _).mono ?_;rintro e n ⟨rfl,j⟩;go_wp2;go_ret;exact⟨rfl,blw⟩
theorem qaP (k:Int)(w:World):Calls Tryz.prog 59 #[k] w (yae w (.bool (within k 1 8))):=by
 go_enter Tryz.func59,Tryz.ntmps59
 go_wp2_with fail
 refine(Zaa k 1 8 _).mono ?_;rintro e n ⟨rfl,j⟩;go_wp2;go_ret;exact⟨rfl,blw⟩
theorem xaC (c:Jag)(Y I:Value)(w:World)(Q:RdS w Y c.o)(D:RdS w I c.text):
 Calls Tryz.prog 23 #[.agg #[c.kind,c.doc,c.client,c.seq,c.n,Y,I]] w (yae w (.bool (xac c))):=by
 have hlo:=fun R ty=>Q.len Tryz.underlying30 R ty
 have hlt:=fun R ty=>D.len Tryz.underlying31 R ty
 have blo:=Q.le;have blt:=D.le;obtain⟨kind,doc,client,seq,n,z,text⟩:=c;simp only at Q D hlo hlt blo blt;show Calls Tryz.prog 23 #[.agg #[kind,doc,client,seq,n,Y,I]] w _;go_enter Tryz.func23,Tryz.ntmps23
 go_wp2_with fail
 refine(qaP _ _).mono ?_;rintro e R ⟨rfl,hb⟩;have M:=hH ((Bx.new rfl).at hb);have j:=hH (((lf w w).alloc om _).trans (hb.mono om));have K:=M.out.o7;clear hb;by_cases h1:within kind 1 8=true
 rotate_left
 ·replace h1:within kind 1 8=false:=by simpa using h1
  have q:Hid (xac ⟨kind,doc,client,seq,n,z,text⟩=false):=hH (by simp[xac,h1])
  go_wp2;go_ret;exact⟨jaa q.out.symm,j.out.trans ((show Below R R _ from blw).mono j.out.size)⟩
 by_cases h2:doc.size<=8
 rotate_left
 ·skip
  have q:Hid (xac ⟨kind,doc,client,seq,n,z,text⟩=false):=hH (by simp[xac,h2])
  go_wp2;go_ret;exact⟨jaa q.out.symm,j.out.trans ((show Below R R _ from blw).mono j.out.size)⟩
 go_wp2_with fail
 refine(vap _ z _ (Q.below j.out)).mono ?_;rintro e w2 ⟨rfl,hb⟩;replace M:=hH (M.out.at hb);replace j:=hH (j.out.trans (hb.mono j.out.size));clear K;have K:=M.out.o7;clear hb;by_cases h3:Xag z=true
 rotate_left
 ·replace h3:Xag z=false:=by simpa using h3
  have q:Hid (xac ⟨kind,doc,client,seq,n,z,text⟩=false):=hH (by simp[xac,h3])
  go_wp2;go_ret;exact⟨jaa q.out.symm,j.out.trans ((show Below w2 w2 _ from blw).mono j.out.size)⟩
 go_wp2_with fail
 refine(Xaj _ text _ (D.below j.out)).mono ?_;rintro e w3 ⟨rfl,hb⟩;replace M:=hH (M.out.at hb);replace j:=hH (j.out.trans (hb.mono j.out.size));clear K;have K:=M.out.o7;clear hb;by_cases h4:jae text=true
 rotate_left
 ·replace h4:jae text=false:=by simpa using h4
  have q:Hid (xac ⟨kind,doc,client,seq,n,z,text⟩=false):=hH (by simp[xac,h4])
  go_wp2;go_ret;exact⟨jaa q.out.symm,j.out.trans ((show Below w3 w3 _ from blw).mono j.out.size)⟩
 have B:=hH (KaM (c:=⟨kind,doc,client,seq,n,z,text⟩) h1 h2 h3 h4);go_wp2_with fail
 refine(ZaW _ _).mono ?_;rintro e u ⟨rfl,hb⟩;replace M:=hH (M.out.at hb);replace j:=hH (j.out.trans (hb.mono j.out.size));clear K;have K:=M.out.o7;clear hb;rcases kinds h1 with rfl|rfl|rfl|rfl|rfl|rfl|rfl|rfl
 all_goals clear h1
 ·have p:vao 1=true:=by decide
  by_cases t:z=[]
  rotate_left
  ·have q:=hH (show xac ⟨1,doc,client,seq,n,z,text⟩=false by rw[B.out];simp[Jaf,p,t])
   have g:0<z.length:=List.length_pos_iff.2 t;clear t;go_wp2;go_ret;exact⟨jaa q.out.symm,j.out.trans ((show Below u u _ from blw).mono j.out.size)⟩
  have Z:z.length=0:=by rw[t];rfl
  have J:=hH t;clear t;by_cases t:seq=0
  rotate_left
  ·have q:=hH (show xac ⟨1,doc,client,seq,n,z,text⟩=false by rw[B.out];simp[Jaf,p,t])
   have g:(seq !=0)=true:=by simpa using t
   clear t;go_wp2;go_ret;exact⟨jaa q.out.symm,j.out.trans ((show Below u u _ from blw).mono j.out.size)⟩
  have gS:(seq !=0)=false:=by rw[t];simp
  have TS:=hH t;clear t;by_cases t:client=0
  rotate_left
  ·have q:=hH (show xac ⟨1,doc,client,seq,n,z,text⟩=false by rw[B.out];simp[Jaf,p,t])
   have g:(client==0)=false:=by simpa using t
   clear t;go_wp2;go_ret;exact⟨jaa q.out.symm,j.out.trans ((show Below u u _ from blw).mono j.out.size)⟩
  have gC:(client==0)=true:=by rw[t];simp
  have N:=hH t;clear t;by_cases t:n=0
  rotate_left
  ·have q:=hH (show xac ⟨1,doc,client,seq,n,z,text⟩=false by rw[B.out];simp[Jaf,p,t])
   have g:(n==0)=false:=by simpa using t
   clear t;go_wp2;go_ret;exact⟨jaa q.out.symm,j.out.trans ((show Below u u _ from blw).mono j.out.size)⟩
  have gN:(n==0)=true:=by rw[t];simp
  have U:=hH t;clear t;have q:=hH (show xac ⟨1,doc,client,seq,n,z,text⟩=true by rw[B.out];simp[Jaf,p,J.out,TS.out,N.out,U.out])
  go_wp2;go_ret;exact⟨jaa q.out.symm,j.out.trans ((show Below u u _ from blw).mono j.out.size)⟩
 ·have p:vao 2=true:=by decide
  by_cases t:text=[]
  rotate_left
  ·have q:=hH (show xac ⟨2,doc,client,seq,n,z,text⟩=false by rw[B.out];simp[Jaf,p,t])
   have g:0<text.length:=List.length_pos_iff.2 t;clear t;go_wp2;go_ret;exact⟨jaa q.out.symm,j.out.trans ((show Below u u _ from blw).mono j.out.size)⟩
  have gX:text.length=0:=by rw[t];rfl
  have TX:=hH t;clear t;have q:=hH (show xac ⟨2,doc,client,seq,n,z,text⟩=true by rw[B.out];simp[Jaf,p,TX.out])
  go_wp2;go_ret;exact⟨jaa q.out.symm,j.out.trans ((show Below u u _ from blw).mono j.out.size)⟩
 ·have p:vao 3=true:=by decide
  by_cases t:text=[]
  rotate_left
  ·have q:=hH (show xac ⟨3,doc,client,seq,n,z,text⟩=false by rw[B.out];simp[Jaf,p,t])
   have g:0<text.length:=List.length_pos_iff.2 t;clear t;go_wp2;go_ret;exact⟨jaa q.out.symm,j.out.trans ((show Below u u _ from blw).mono j.out.size)⟩
  have gX:text.length=0:=by rw[t];rfl
  have TX:=hH t;clear t;by_cases t:z=[]
  rotate_left
  ·have q:=hH (show xac ⟨3,doc,client,seq,n,z,text⟩=false by rw[B.out];simp[Jaf,p,t])
   have g:0<z.length:=List.length_pos_iff.2 t;clear t;go_wp2;go_ret;exact⟨jaa q.out.symm,j.out.trans ((show Below u u _ from blw).mono j.out.size)⟩
  have Z:z.length=0:=by rw[t];rfl
  have J:=hH t;clear t;by_cases t:seq=0
  rotate_left
  ·have q:=hH (show xac ⟨3,doc,client,seq,n,z,text⟩=false by rw[B.out];simp[Jaf,p,t])
   have g:(seq !=0)=true:=by simpa using t
   clear t;go_wp2;go_ret;exact⟨jaa q.out.symm,j.out.trans ((show Below u u _ from blw).mono j.out.size)⟩
  have gS:(seq !=0)=false:=by rw[t];simp
  have TS:=hH t;clear t;by_cases t:client=0
  rotate_left
  ·have q:=hH (show xac ⟨3,doc,client,seq,n,z,text⟩=false by rw[B.out];simp[Jaf,p,t])
   have g:(client==0)=false:=by simpa using t
   clear t;go_wp2;go_ret;exact⟨jaa q.out.symm,j.out.trans ((show Below u u _ from blw).mono j.out.size)⟩
  have gC:(client==0)=true:=by rw[t];simp
  have N:=hH t;clear t;have q:=hH (show xac ⟨3,doc,client,seq,n,z,text⟩=true by rw[B.out];simp[Jaf,p,TX.out,J.out,TS.out,N.out])
  go_wp2;go_ret;exact⟨jaa q.out.symm,j.out.trans ((show Below u u _ from blw).mono j.out.size)⟩
 ·have p:vao 4=true:=by decide
  by_cases t:text=[]
  rotate_left
  ·have q:=hH (show xac ⟨4,doc,client,seq,n,z,text⟩=false by rw[B.out];simp[Jaf,p,t])
   have g:0<text.length:=List.length_pos_iff.2 t;clear t;go_wp2;go_ret;exact⟨jaa q.out.symm,j.out.trans ((show Below u u _ from blw).mono j.out.size)⟩
  have gX:text.length=0:=by rw[t];rfl
  have TX:=hH t;clear t;by_cases t:z=[]
  rotate_left
  ·have q:=hH (show xac ⟨4,doc,client,seq,n,z,text⟩=false by rw[B.out];simp[Jaf,p,t])
   have g:0<z.length:=List.length_pos_iff.2 t;clear t;go_wp2;go_ret;exact⟨jaa q.out.symm,j.out.trans ((show Below u u _ from blw).mono j.out.size)⟩
  have Z:z.length=0:=by rw[t];rfl
  have J:=hH t;clear t;by_cases t:seq=0
  rotate_left
  ·have q:=hH (show xac ⟨4,doc,client,seq,n,z,text⟩=false by rw[B.out];simp[Jaf,p,t])
   have g:(seq !=0)=true:=by simpa using t
   clear t;go_wp2;go_ret;exact⟨jaa q.out.symm,j.out.trans ((show Below u u _ from blw).mono j.out.size)⟩
  have gS:(seq !=0)=false:=by rw[t];simp
  have TS:=hH t;clear t;by_cases t:client=0
  rotate_left
  ·have q:=hH (show xac ⟨4,doc,client,seq,n,z,text⟩=false by rw[B.out];simp[Jaf,p,t])
   have g:(client==0)=false:=by simpa using t
   clear t;go_wp2;go_ret;exact⟨jaa q.out.symm,j.out.trans ((show Below u u _ from blw).mono j.out.size)⟩
  have gC:(client==0)=true:=by rw[t];simp
  have N:=hH t;clear t;by_cases t:n=0
  rotate_left
  ·have q:=hH (show xac ⟨4,doc,client,seq,n,z,text⟩=false by rw[B.out];simp[Jaf,p,t])
   have g:(n==0)=false:=by simpa using t
   clear t;go_wp2;go_ret;exact⟨jaa q.out.symm,j.out.trans ((show Below u u _ from blw).mono j.out.size)⟩
  have gN:(n==0)=true:=by rw[t];simp
  have U:=hH t;clear t;have q:=hH (show xac ⟨4,doc,client,seq,n,z,text⟩=true by rw[B.out];simp[Jaf,p,TX.out,J.out,TS.out,N.out,U.out])
  go_wp2;go_ret;exact⟨jaa q.out.symm,j.out.trans ((show Below u u _ from blw).mono j.out.size)⟩
 ·have p:vao 5=true:=by decide
  by_cases t:text=[]
  rotate_left
  ·have q:=hH (show xac ⟨5,doc,client,seq,n,z,text⟩=false by rw[B.out];simp[Jaf,p,t])
   have g:0<text.length:=List.length_pos_iff.2 t;clear t;go_wp2;go_ret;exact⟨jaa q.out.symm,j.out.trans ((show Below u u _ from blw).mono j.out.size)⟩
  have gX:text.length=0:=by rw[t];rfl
  have TX:=hH t;clear t;by_cases t:z=[]
  rotate_left
  ·have q:=hH (show xac ⟨5,doc,client,seq,n,z,text⟩=false by rw[B.out];simp[Jaf,p,t])
   have g:0<z.length:=List.length_pos_iff.2 t;clear t;go_wp2;go_ret;exact⟨jaa q.out.symm,j.out.trans ((show Below u u _ from blw).mono j.out.size)⟩
  have Z:z.length=0:=by rw[t];rfl
  have J:=hH t;clear t;by_cases t:seq=0
  rotate_left
  ·have q:=hH (show xac ⟨5,doc,client,seq,n,z,text⟩=false by rw[B.out];simp[Jaf,p,t])
   have g:(seq !=0)=true:=by simpa using t
   clear t;go_wp2;go_ret;exact⟨jaa q.out.symm,j.out.trans ((show Below u u _ from blw).mono j.out.size)⟩
  have gS:(seq !=0)=false:=by rw[t];simp
  have TS:=hH t;clear t;by_cases t:client=0
  rotate_left
  ·have q:=hH (show xac ⟨5,doc,client,seq,n,z,text⟩=false by rw[B.out];simp[Jaf,p,t])
   have g:(client==0)=false:=by simpa using t
   clear t;go_wp2;go_ret;exact⟨jaa q.out.symm,j.out.trans ((show Below u u _ from blw).mono j.out.size)⟩
  have gC:(client==0)=true:=by rw[t];simp
  have N:=hH t;clear t;have q:=hH (show xac ⟨5,doc,client,seq,n,z,text⟩=true by rw[B.out];simp[Jaf,p,TX.out,J.out,TS.out,N.out])
  go_wp2;go_ret;exact⟨jaa q.out.symm,j.out.trans ((show Below u u _ from blw).mono j.out.size)⟩
 ·have p:vao 6=false:=by decide
  by_cases t:doc=ByteArray.empty
  rotate_left
  ·have q:=hH (show xac ⟨6,doc,client,seq,n,z,text⟩=false by rw[B.out];simp[Jaf,p,t])
   have g:(doc.toList==[])=false:=by have:=vaK t;simpa using this
   have g2:doc.toList.isEmpty=false:=by have:=vaK t;simpa using this
   clear t;go_wp2;go_ret;exact⟨jaa q.out.symm,j.out.trans ((show Below u u _ from blw).mono j.out.size)⟩
  have gD:=uaT t;have gD2:doc.toList.isEmpty=true:=by rw[t];simp
  have TD:=hH t;clear t;by_cases t:text=[]
  rotate_left
  ·have q:=hH (show xac ⟨6,doc,client,seq,n,z,text⟩=false by rw[B.out];simp[Jaf,p,t])
   have g:0<text.length:=List.length_pos_iff.2 t;clear t;go_wp2;go_ret;exact⟨jaa q.out.symm,j.out.trans ((show Below u u _ from blw).mono j.out.size)⟩
  have gX:text.length=0:=by rw[t];rfl
  have TX:=hH t;clear t;by_cases t:z=[]
  rotate_left
  ·have q:=hH (show xac ⟨6,doc,client,seq,n,z,text⟩=false by rw[B.out];simp[Jaf,p,t])
   have g:0<z.length:=List.length_pos_iff.2 t;clear t;go_wp2;go_ret;exact⟨jaa q.out.symm,j.out.trans ((show Below u u _ from blw).mono j.out.size)⟩
  have Z:z.length=0:=by rw[t];rfl
  have J:=hH t;clear t;by_cases t:seq=0
  rotate_left
  ·have q:=hH (show xac ⟨6,doc,client,seq,n,z,text⟩=false by rw[B.out];simp[Jaf,p,t])
   have g:(seq !=0)=true:=by simpa using t
   clear t;go_wp2;go_ret;exact⟨jaa q.out.symm,j.out.trans ((show Below u u _ from blw).mono j.out.size)⟩
  have gS:(seq !=0)=false:=by rw[t];simp
  have TS:=hH t;clear t;have q:=hH (show xac ⟨6,doc,client,seq,n,z,text⟩=true by rw[B.out];simp[Jaf,p,TD.out,TX.out,J.out,TS.out])
  go_wp2;go_ret;exact⟨jaa q.out.symm,j.out.trans ((show Below u u _ from blw).mono j.out.size)⟩
 ·have p:vao 7=false:=by decide
  by_cases t:doc=ByteArray.empty
  rotate_left
  ·have q:=hH (show xac ⟨7,doc,client,seq,n,z,text⟩=false by rw[B.out];simp[Jaf,p,t])
   have g:(doc.toList==[])=false:=by have:=vaK t;simpa using this
   have g2:doc.toList.isEmpty=false:=by have:=vaK t;simpa using this
   clear t;go_wp2;go_ret;exact⟨jaa q.out.symm,j.out.trans ((show Below u u _ from blw).mono j.out.size)⟩
  have gD:=uaT t;have gD2:doc.toList.isEmpty=true:=by rw[t];simp
  have TD:=hH t;clear t;by_cases t:text=[]
  rotate_left
  ·have q:=hH (show xac ⟨7,doc,client,seq,n,z,text⟩=false by rw[B.out];simp[Jaf,p,t])
   have g:0<text.length:=List.length_pos_iff.2 t;clear t;go_wp2;go_ret;exact⟨jaa q.out.symm,j.out.trans ((show Below u u _ from blw).mono j.out.size)⟩
  have gX:text.length=0:=by rw[t];rfl
  have TX:=hH t;clear t;by_cases t:z=[]
  rotate_left
  ·have q:=hH (show xac ⟨7,doc,client,seq,n,z,text⟩=false by rw[B.out];simp[Jaf,p,t])
   have g:0<z.length:=List.length_pos_iff.2 t;clear t;go_wp2;go_ret;exact⟨jaa q.out.symm,j.out.trans ((show Below u u _ from blw).mono j.out.size)⟩
  have Z:z.length=0:=by rw[t];rfl
  have J:=hH t;clear t;by_cases t:seq=0
  rotate_left
  ·have q:=hH (show xac ⟨7,doc,client,seq,n,z,text⟩=false by rw[B.out];simp[Jaf,p,t])
   have g:(seq !=0)=true:=by simpa using t
   clear t;go_wp2;go_ret;exact⟨jaa q.out.symm,j.out.trans ((show Below u u _ from blw).mono j.out.size)⟩
  have gS:(seq !=0)=false:=by rw[t];simp
  have TS:=hH t;clear t;by_cases t:n=0
  rotate_left
  ·have q:=hH (show xac ⟨7,doc,client,seq,n,z,text⟩=false by rw[B.out];simp[Jaf,p,t])
   have g:(n==0)=false:=by simpa using t
   clear t;go_wp2;go_ret;exact⟨jaa q.out.symm,j.out.trans ((show Below u u _ from blw).mono j.out.size)⟩
  have gN:(n==0)=true:=by rw[t];simp
  have U:=hH t;clear t;have q:=hH (show xac ⟨7,doc,client,seq,n,z,text⟩=true by rw[B.out];simp[Jaf,p,TD.out,TX.out,J.out,TS.out,U.out])
  go_wp2;go_ret;exact⟨jaa q.out.symm,j.out.trans ((show Below u u _ from blw).mono j.out.size)⟩
 ·have p:vao 8=false:=by decide
  by_cases t:doc=ByteArray.empty
  rotate_left
  ·have q:=hH (show xac ⟨8,doc,client,seq,n,z,text⟩=false by rw[B.out];simp[Jaf,p,t])
   have g:(doc.toList==[])=false:=by have:=vaK t;simpa using this
   have g2:doc.toList.isEmpty=false:=by have:=vaK t;simpa using this
   clear t;go_wp2;go_ret;exact⟨jaa q.out.symm,j.out.trans ((show Below u u _ from blw).mono j.out.size)⟩
  have gD:=uaT t;have gD2:doc.toList.isEmpty=true:=by rw[t];simp
  have TD:=hH t;clear t;by_cases t:text=[]
  rotate_left
  ·have q:=hH (show xac ⟨8,doc,client,seq,n,z,text⟩=false by rw[B.out];simp[Jaf,p,t])
   have g:0<text.length:=List.length_pos_iff.2 t;clear t;go_wp2;go_ret;exact⟨jaa q.out.symm,j.out.trans ((show Below u u _ from blw).mono j.out.size)⟩
  have gX:text.length=0:=by rw[t];rfl
  have TX:=hH t;clear t;by_cases t:z=[]
  rotate_left
  ·have q:=hH (show xac ⟨8,doc,client,seq,n,z,text⟩=false by rw[B.out];simp[Jaf,p,t])
   have g:0<z.length:=List.length_pos_iff.2 t;clear t;go_wp2;go_ret;exact⟨jaa q.out.symm,j.out.trans ((show Below u u _ from blw).mono j.out.size)⟩
  have Z:z.length=0:=by rw[t];rfl
  have J:=hH t;clear t;by_cases t:seq=0
  rotate_left
  ·have q:=hH (show xac ⟨8,doc,client,seq,n,z,text⟩=false by rw[B.out];simp[Jaf,p,t])
   have g:(seq !=0)=true:=by simpa using t
   clear t;go_wp2;go_ret;exact⟨jaa q.out.symm,j.out.trans ((show Below u u _ from blw).mono j.out.size)⟩
  have gS:(seq !=0)=false:=by rw[t];simp
  have TS:=hH t;clear t;by_cases t:client=0
  rotate_left
  ·have q:=hH (show xac ⟨8,doc,client,seq,n,z,text⟩=false by rw[B.out];simp[Jaf,p,t])
   have g:(client==0)=false:=by simpa using t
   clear t;go_wp2;go_ret;exact⟨jaa q.out.symm,j.out.trans ((show Below u u _ from blw).mono j.out.size)⟩
  have gC:(client==0)=true:=by rw[t];simp
  have N:=hH t;clear t;by_cases t:n=0
  rotate_left
  ·have q:=hH (show xac ⟨8,doc,client,seq,n,z,text⟩=false by rw[B.out];simp[Jaf,p,t])
   have g:(n==0)=false:=by simpa using t
   clear t;go_wp2;go_ret;exact⟨jaa q.out.symm,j.out.trans ((show Below u u _ from blw).mono j.out.size)⟩
  have gN:(n==0)=true:=by rw[t];simp
  have U:=hH t;clear t;have q:=hH (show xac ⟨8,doc,client,seq,n,z,text⟩=true by rw[B.out];simp[Jaf,p,TD.out,TX.out,J.out,TS.out,N.out,U.out])
  go_wp2;go_ret;exact⟨jaa q.out.symm,j.out.trans ((show Below u u _ from blw).mono j.out.size)⟩
def vbf (w:World)(c:Jag)(e:Ending)(w':World):Prop:=
 ∃vo vt,e= .returned (.agg #[c.kind,c.doc,c.client,c.seq,c.n,vo,vt])/\RdS w' vo c.o/\RdS w' vt c.text/\Below w w w'
theorem xa3 (c:Jag)(B q:Value)(w:World)(D:within c.kind 1 8=true)(z:RdS w B c.o)(j:RdS w q c.text):
 Calls Tryz.prog 34 #[.agg #[c.kind,c.doc,c.client,c.seq,c.n,B,q]] w (vbf w (Jaf c)):=by
 obtain⟨kind,doc,client,seq,n,u,text⟩:=c;simp only at D z j;show Calls Tryz.prog 34 #[.agg #[kind,doc,client,seq,n,B,q]] w _;obtain⟨Q,R,rfl⟩:=z.isSlice;obtain⟨at_,U,rfl⟩:=j.isSlice
 rcases kinds D with rfl|rfl|rfl|rfl|rfl|rfl|rfl|rfl
 rw[show Jaf ⟨1,doc,client,seq,n,u,text⟩=⟨1,doc,0,0,0,[],text⟩ by simp[Jaf,vao,within]]
 have p:vao 1=true:=by decide
 rotate_left;rw[show Jaf ⟨2,doc,client,seq,n,u,text⟩=⟨2,doc,client,seq,n,u,[]⟩ by simp[Jaf,vao,within]]
 have p:vao 2=true:=by decide
 rotate_left;rw[show Jaf ⟨3,doc,client,seq,n,u,text⟩=⟨3,doc,0,0,n,[],[]⟩ by simp[Jaf,vao,within]]
 have p:vao 3=true:=by decide
 rotate_left;rw[show Jaf ⟨4,doc,client,seq,n,u,text⟩=⟨4,doc,0,0,0,[],[]⟩ by simp[Jaf,vao,within]]
 have p:vao 4=true:=by decide
 rotate_left;rw[show Jaf ⟨5,doc,client,seq,n,u,text⟩=⟨5,doc,0,0,n,[],[]⟩ by simp[Jaf,vao,within]]
 have p:vao 5=true:=by decide
 rotate_left;rw[show Jaf ⟨6,doc,client,seq,n,u,text⟩=⟨6,ByteArray.empty,client,0,n,[],[]⟩ by simp[Jaf,vao,within]]
 have p:vao 6=false:=by decide
 rotate_left;rw[show Jaf ⟨7,doc,client,seq,n,u,text⟩=⟨7,ByteArray.empty,client,0,0,[],[]⟩ by simp[Jaf,vao,within]]
 have p:vao 7=false:=by decide
 rotate_left;rw[show Jaf ⟨8,doc,client,seq,n,u,text⟩=⟨8,ByteArray.empty,0,0,0,[],[]⟩ by simp[Jaf,vao,within]]
 have p:vao 8=false:=by decide
 rotate_left;all_goals
  clear D;go_enter Tryz.func34,Tryz.ntmps34
  go_wp2_with fail
  refine(KaW _ _).mono ?_;rintro e I ⟨rfl,hb⟩;have J:=hH ((((Bx.new rfl).alloc _).alloc _).at hb);have M:Hid (Bx I (w+1) _):=hH (((Bx.new sm).alloc _).at hb);have N:Hid (Bx I (w+2) _):=hH ((Bx.new sm).at hb);have X:Below w w I:=((((lf w w).alloc om _).alloc om _).alloc om _).trans (hb.mono om);clear hb;obtain⟨z0,Y,Z,a2,a3,a4,a5,a6⟩:=J.out.o7;obtain⟨z1,b0,b1,b2,b3,b4,b5,b6,c0,c1,c2,c3,c4,c5,c6⟩:=M.out.q7;obtain⟨z2,d0,d1,d2,d3,d4,d5,d6,e0,e1,e2,e3,e4,e5,e6⟩:=N.out.q7;rw[p];clear p;go_wp2
 ·exact bodyPost_ret (v:= .agg #[.int .i64 1,doc,zI,zI,zI,zN,.slice at_ text.length U]) (by simp[results,Tryz.results34,go_sem,xaa, *]) rfl ⟨_,_,rfl,RdS.nil,j.below blw,blw⟩
 ·go_region
  all_goals
   repeat go_step
   exact bodyPost_ret (v:= .agg #[.int .i64 2,doc,client,seq,n,.slice Q u.length R,zN]) (by simp[results,Tryz.results34,go_sem,xaa, *]) rfl ⟨_,_,rfl,z.below blw,RdS.nil,blw⟩
 ·exact bodyPost_ret (v:= .agg #[.int .i64 3,doc,zI,zI,n,zN,zN]) (by simp[results,Tryz.results34,go_sem,xaa, *]) rfl ⟨_,_,rfl,RdS.nil,RdS.nil,blw⟩
 ·exact bodyPost_ret (v:= .agg #[.int .i64 4,doc,zI,zI,zI,zN,zN]) (by simp[results,Tryz.results34,go_sem,xaa, *]) rfl ⟨_,_,rfl,RdS.nil,RdS.nil,blw⟩
 ·exact bodyPost_ret (v:= .agg #[.int .i64 5,doc,zI,zI,n,zN,zN]) (by simp[results,Tryz.results34,go_sem,xaa, *]) rfl ⟨_,_,rfl,RdS.nil,RdS.nil,blw⟩
 ·go_region
  all_goals
   repeat go_step
   exact bodyPost_ret (v:= .agg #[.int .i64 6,.string ⟨#[]⟩,client,zI,n,zN,zN]) (by simp[results,Tryz.results34,go_sem,xaa, *]) rfl ⟨_,_,rfl,RdS.nil,RdS.nil,blw⟩
 ·exact bodyPost_ret (v:= .agg #[.int .i64 7,.string ⟨#[]⟩,client,zI,zI,zN,zN]) (by simp[results,Tryz.results34,go_sem,xaa, *]) rfl ⟨_,_,rfl,RdS.nil,RdS.nil,blw⟩
 ·exact bodyPost_ret (v:= .agg #[.int .i64 8,.string ⟨#[]⟩,zI,zI,zI,zN,zN]) (by simp[results,Tryz.results34,go_sem,xaa, *]) rfl ⟨_,_,rfl,RdS.nil,RdS.nil,blw⟩

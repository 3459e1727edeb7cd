/- Calls: marked; answers: marked, and held. -/
import Derived.Test.YtocdogemgojgaaaGreatQbz
set_option maxHeartbeats 1000000
namespace Go.Proofs.YtocdogemgojgaaaGreat
open Go.RowKit
theorem jba (B:Nat)(kind:Int)(doc:ByteArray)(client:Int)(seq:Int)(n:Int)(z:Value)(j:Value)(a0:List zaa)(D:List Int)(Y:List Pos)(u:List Pos)(w:World)(m:Int)(h0:0<=m)(h1:m+((uab a0+uab D:Nat):Int)<=4611686018427387904)(s_o:Sl BIG w z a0 Y)(Z:Sl BIG w j D u)(hf:Xaa B w (Y++u)):
 Calls Tryz.prog 28 #[.agg #[kind,doc,client,seq,n,z,j],m] w (fun e w'=>e= .returned (.int .i64 (m+((uab a0+uab D:Nat):Int)))/\Sl BIG w' z (mkL m a0) Y/\Sl BIG w' j (mkL (m+uab a0) D) u/\Wr (Y++u) w w'):=by
 have N:=Live.lt s_o.live;have q:=Live.lt Z.live;have a4:Below w w (w.alloc (.cells #[kind,doc,client,seq,n,z,j] 33)):=(lf _ _).alloc (lr _) _;have a5:Xaa B _ Y:=(hf.left).belowL a4 N;have a6:=s_o.belowW a4;have a1:Xaa B _ u:=(hf.right).belowL a4 q;have R:=Z.belowW a4;have X0:Wr (Y++u) w _:=Wr.of_below a4;have c0_0:(w.alloc (.cells #[kind,doc,client,seq,n,z,j] 33)).cell? ⟨w.heap.size,0,none⟩=some (.int .i64 kind):=by simp
 have c0_1:(w.alloc (.cells #[kind,doc,client,seq,n,z,j] 33)).cell? ⟨w.heap.size,1,none⟩=some (.string doc):=by simp
 have c0_2:(w.alloc (.cells #[kind,doc,client,seq,n,z,j] 33)).cell? ⟨w.heap.size,2,none⟩=some (.int .i64 client):=by simp
 have c0_3:(w.alloc (.cells #[kind,doc,client,seq,n,z,j] 33)).cell? ⟨w.heap.size,3,none⟩=some (.int .i64 seq):=by simp
 have c0_4:(w.alloc (.cells #[kind,doc,client,seq,n,z,j] 33)).cell? ⟨w.heap.size,4,none⟩=some (.int .i64 n):=by simp
 have c0_5:(w.alloc (.cells #[kind,doc,client,seq,n,z,j] 33)).cell? ⟨w.heap.size,5,none⟩=some (z):=by simp
 have c0_6:(w.alloc (.cells #[kind,doc,client,seq,n,z,j] 33)).cell? ⟨w.heap.size,6,none⟩=some (j):=by simp
 have z0:w.heap.size<(w.alloc (.cells #[kind,doc,client,seq,n,z,j] 33)).heap.size:=by simp
 have hnd:=hf.nodup;have HND:=hH hnd;clear hnd;go_enter Tryz.func28,Tryz.ntmps28
 go_wp2_with fail
 refine(vaK B _ a0 Y _ _ (by omega) (by omega) a6 a5).mono ?_
 rintro e w1 ⟨rfl,T1_o,J⟩;have a7:=T1_o;have F1_o:=J.fresh a6.live a5;have U:=R.wr J (fun p hp hq=>by have hh:=HND.out;simp only[ln]at hh;(try simp only[lm]at hh);grind)
 have Q:=J.fresh R.live a1;have X1:=X0.trans (J.sub (fun p hp=>by simp[hp]))
 have z1:w<w1.heap.size:=lq z0 J.size;have c1_0:w1.cell? ⟨w.heap.size,0,none⟩=some (.int .i64 kind):=(J.cell (w,0) z0 (fun I=>by have:=N _ I;simp at this)).trans c0_0
 have c1_1:w1.cell? ⟨w.heap.size,1,none⟩=some (.string doc):=(J.cell (w,1) z0 (fun I=>by have:=N _ I;simp at this)).trans c0_1
 have c1_2:w1.cell? ⟨w.heap.size,2,none⟩=some (.int .i64 client):=(J.cell (w,2) z0 (fun I=>by have:=N _ I;simp at this)).trans c0_2
 have c1_3:w1.cell? ⟨w.heap.size,3,none⟩=some (.int .i64 seq):=(J.cell (w,3) z0 (fun I=>by have:=N _ I;simp at this)).trans c0_3
 have c1_4:w1.cell? ⟨w.heap.size,4,none⟩=some (.int .i64 n):=(J.cell (w,4) z0 (fun I=>by have:=N _ I;simp at this)).trans c0_4
 have c1_5:w1.cell? ⟨w.heap.size,5,none⟩=some (z):=(J.cell (w,5) z0 (fun I=>by have:=N _ I;simp at this)).trans c0_5
 have c1_6:w1.cell? ⟨w.heap.size,6,none⟩=some (j):=(J.cell (w,6) z0 (fun I=>by have:=N _ I;simp at this)).trans c0_6
 clear J;go_wp2_with fail
 refine(zaz B _ D u _ _ (by omega) (by omega) U Q).mono ?_
 rintro e w2 ⟨rfl,a3,M⟩;have S2_o:=a7.wr M (fun p hp hq=>by have hh:=HND.out;simp only[ln]at hh;(try simp only[lm]at hh);grind)
 have F2_o:=M.fresh a7.live F1_o;have a2:=a3;have F2_text:=M.fresh U.live Q;have X2:=X1.trans (M.sub (fun p hp=>by simp[hp]))
 have z2:w<w2.heap.size:=lq z1 M.size;have c2_0:w2.cell? ⟨w.heap.size,0,none⟩=some (.int .i64 kind):=(M.cell (w,0) z1 (fun I=>by have:=q _ I;simp at this)).trans c1_0
 have c2_1:w2.cell? ⟨w.heap.size,1,none⟩=some (.string doc):=(M.cell (w,1) z1 (fun I=>by have:=q _ I;simp at this)).trans c1_1
 have c2_2:w2.cell? ⟨w.heap.size,2,none⟩=some (.int .i64 client):=(M.cell (w,2) z1 (fun I=>by have:=q _ I;simp at this)).trans c1_2
 have c2_3:w2.cell? ⟨w.heap.size,3,none⟩=some (.int .i64 seq):=(M.cell (w,3) z1 (fun I=>by have:=q _ I;simp at this)).trans c1_3
 have c2_4:w2.cell? ⟨w.heap.size,4,none⟩=some (.int .i64 n):=(M.cell (w,4) z1 (fun I=>by have:=q _ I;simp at this)).trans c1_4
 have c2_5:w2.cell? ⟨w.heap.size,5,none⟩=some (z):=(M.cell (w,5) z1 (fun I=>by have:=q _ I;simp at this)).trans c1_5
 have c2_6:w2.cell? ⟨w.heap.size,6,none⟩=some (j):=(M.cell (w,6) z1 (fun I=>by have:=q _ I;simp at this)).trans c1_6
 clear M;go_wp2;go_ret;exact⟨Xab (by omega),S2_o,a2,X2⟩
theorem qaY (B:Nat)(code:Int)(rev:Int)(n:Value)(j:Value)(I:List Int)(J:List Kaa)(u:List Pos)(q:List Pos)(w:World)(m:Int)(h0:0<=m)(h1:m+((uab I+uab J:Nat):Int)<=4611686018427387904)(s_text:Sl BIG w n I u)(s_list:Sl BIG w j J q)(hf:Xaa B w (u++q)):
 Calls Tryz.prog 29 #[.agg #[code,rev,n,j],m] w (fun e w'=>e= .returned (.int .i64 (m+((uab I+uab J:Nat):Int)))/\Sl BIG w' n (mkL m I) u/\Sl BIG w' j (mkL (m+uab I) J) q/\Wr (u++q) w w'):=by
 have D:=Live.lt s_text.live;have z:=Live.lt s_list.live;have hbx:Below w w (w.alloc (.cells #[code,rev,n,j] 36)):=(lf _ _).alloc (lr _) _;have Q:Xaa B _ u:=(hf.left).belowL hbx D;have Y:=s_text.belowW hbx;have F0_list:Xaa B _ q:=(hf.right).belowL hbx z;have U:=s_list.belowW hbx;have X0:Wr (u++q) w _:=Wr.of_below hbx;have c0_0:(w.alloc (.cells #[code,rev,n,j] 36)).cell? ⟨w.heap.size,0,none⟩=some (.int .i64 code):=by simp
 have c0_1:(w.alloc (.cells #[code,rev,n,j] 36)).cell? ⟨w.heap.size,1,none⟩=some (.int .i64 rev):=by simp
 have c0_2:(w.alloc (.cells #[code,rev,n,j] 36)).cell? ⟨w.heap.size,2,none⟩=some (n):=by simp
 have c0_3:(w.alloc (.cells #[code,rev,n,j] 36)).cell? ⟨w.heap.size,3,none⟩=some (j):=by simp
 have z0:w.heap.size<(w.alloc (.cells #[code,rev,n,j] 36)).heap.size:=by simp
 have hnd:=hf.nodup;have HND:=hH hnd;clear hnd;go_enter Tryz.func29,Tryz.ntmps29
 go_wp2_with fail
 refine(zaz B _ I u _ _ (by omega) (by omega) Y Q).mono ?_
 rintro e w1 ⟨rfl,T1_text,M⟩;have a0:=T1_text;have F1_text:=M.fresh Y.live Q;have Z:=U.wr M (fun p hp hq=>by have hh:=HND.out;simp only[ln]at hh;(try simp only[lm]at hh);grind)
 have R:=M.fresh U.live F0_list;have X1:=X0.trans (M.sub (fun p hp=>by simp[hp]))
 have z1:w<w1.heap.size:=lq z0 M.size;have c1_0:w1.cell? ⟨w.heap.size,0,none⟩=some (.int .i64 code):=(M.cell (w,0) z0 (fun hm=>by have:=D _ hm;simp at this)).trans c0_0
 have c1_1:w1.cell? ⟨w.heap.size,1,none⟩=some (.int .i64 rev):=(M.cell (w,1) z0 (fun hm=>by have:=D _ hm;simp at this)).trans c0_1
 have c1_2:w1.cell? ⟨w.heap.size,2,none⟩=some (n):=(M.cell (w,2) z0 (fun hm=>by have:=D _ hm;simp at this)).trans c0_2
 have c1_3:w1.cell? ⟨w.heap.size,3,none⟩=some (j):=(M.cell (w,3) z0 (fun hm=>by have:=D _ hm;simp at this)).trans c0_3
 clear M;go_wp2_with fail
 refine(Xax B _ J q _ _ (by omega) (by omega) Z R).mono ?_
 rintro e w2 ⟨rfl,T2_list,N⟩;have S2_text:=a0.wr N (fun p hp hq=>by have hh:=HND.out;simp only[ln]at hh;(try simp only[lm]at hh);grind)
 have F2_text:=N.fresh a0.live F1_text;have S2_list:=T2_list;have F2_list:=N.fresh Z.live R;have X2:=X1.trans (N.sub (fun p hp=>by simp[hp]))
 have z2:w<w2.heap.size:=lq z1 N.size;have c2_0:w2.cell? ⟨w.heap.size,0,none⟩=some (.int .i64 code):=(N.cell (w,0) z1 (fun hm=>by have:=z _ hm;simp at this)).trans c1_0
 have c2_1:w2.cell? ⟨w.heap.size,1,none⟩=some (.int .i64 rev):=(N.cell (w,1) z1 (fun hm=>by have:=z _ hm;simp at this)).trans c1_1
 have c2_2:w2.cell? ⟨w.heap.size,2,none⟩=some (n):=(N.cell (w,2) z1 (fun hm=>by have:=z _ hm;simp at this)).trans c1_2
 have c2_3:w2.cell? ⟨w.heap.size,3,none⟩=some (j):=(N.cell (w,3) z1 (fun hm=>by have:=z _ hm;simp at this)).trans c1_3
 clear N;go_wp2;go_ret;exact⟨Xab (by omega),S2_text,S2_list,X2⟩
theorem uaG (code:Int)(rev:Int)(z:Value)(u:Value)(j:List Int)(n:List Kaa)(w:World)(m:Int)(h0:0<=m)(h1:m+((uab j+uab n:Nat):Int)<=4611686018427387904)(J:RdS w z j)(I:RdS w u n)(q:mkL (m) j=j)(p:mkL (m+uab j) n=n):
 Calls Tryz.prog 31 #[.agg #[code,rev,z,u],m] w (Qac w (.int .i64 (m+((uab j+uab n:Nat):Int)))):=by
 have D:=hH q;have B:=hH p;clear q p;go_enter Tryz.func31,Tryz.ntmps31
 go_wp2_with fail
 refine(xaG _ j _ _ (by omega) (by omega) (J.below blw) D.out).mono ?_
 rintro e w1 ⟨rfl,M⟩;have Z:=M.size;(try simp at Z)
 obtain⟨Q,U⟩:=zab M;have z1:w<w1.heap.size:=om;go_wp2_with fail
 refine(Kaw _ n _ _ (by omega) (by omega) (I.below blw) B.out).mono ?_
 rintro e w2 ⟨rfl,N⟩;have s2:=N.size;(try simp at s2)
 obtain⟨R,Y⟩:=zab N;have z2:w<w2.heap.size:=om;go_wp2;go_ret;exact⟨Xab (by omega),blw⟩

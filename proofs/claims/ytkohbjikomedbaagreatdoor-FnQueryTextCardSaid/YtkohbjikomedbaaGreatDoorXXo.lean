import Derived.Test.YtkohbjikomedbaaGreatDoorXXn
namespace Go.Proofs.YtkohbjikomedbaaGreatDoor
noncomputable section
set_option linter.unusedVariables false
set_option maxRecDepth 100000
set_option maxHeartbeats 2000000
set_option linter.unusedSimpArgs false
section
theorem jiT (n:Nat) (l:List PV) (k:Nat) (s:ByteArray) (h:ByteArray) (t:ByteArray) (xs:List ByteArray) (is:List ByteArray) (cn:Nat) (cl:List PV) (i:Int):r_D3l brC n l k s h t xs is cn cl i=brC (decide (i<(↑ xs.length:Int))) (brC (srcOk n l (↑k:Int) (seedK l k)&&decide (3<=200)&&decide (2<=3)) (brC (pickV l (Int.toNat (↑k:Int)) 3==0) (brC (decide (0<=i)&&decide (i<(↑ xs.length:Int))) (brC (Nat.blt 0 (List.length (List.drop (Int.toNat i*1) (List.map PV.str xs)))&&PV.isStr (List.headD (List.drop (Int.toNat i*1) (List.map PV.str xs)) PV.nilp)&&true) (brC (Nat.beq (List.length [PV.str (PV.asStr (List.headD (List.drop (Int.toNat i*1) (List.map PV.str xs)) PV.nilp))]) (1*1)&&(decide (cn+1<=140737488351232)&&decide ((cn+1)*16<=140737488355328))) (some (.inl [(.ptr 0 0,some (.box [.pv (.sl n l),.pv (.int .i64 ((↑k:Int)+1)),.pv (.int .u64 (seedK l (Int.toNat (↑k:Int)+1)))])),(.ptr 12288 0,some (.box [.pv (.str s),.pv (.str h),.pv (pL xs),.pv (pL is)])),(.ptr 16384 0,some (.box [.pv (.str {data:=#[]}),.pv .nils,.pv .nils,.pv (.str {data:=#[]}),.pv (.bool false),.pv (.int .i64 (Int.ofNat 0))])),(.ptr 20480 0,some (.box [.pv (.str t),.lst 1 9 (cn+1) (cl++[PV.str (PV.asStr (List.headD (List.drop (Int.toNat i*1) (List.map PV.str xs)) PV.nilp))]) true,.pv .nils,.pv (.str {data:=#[]}),.pv (.bool false),.pv (.int .i64 (Int.ofNat 0))])),(.pv (.int .i64 (IntKind.wrap .i64 (i+1))),none)])) none) none) none) (some (.inl [(.ptr 0 0,some (.box [.pv (.sl n l),.pv (.int .i64 ((↑k:Int)+1)),.pv (.int .u64 (seedK l (Int.toNat (↑k:Int)+1)))])),(.ptr 12288 0,some (.box [.pv (.str s),.pv (.str h),.pv (pL xs),.pv (pL is)])),(.ptr 16384 0,some (.box [.pv (.str {data:=#[]}),.pv .nils,.pv .nils,.pv (.str {data:=#[]}),.pv (.bool false),.pv (.int .i64 (Int.ofNat 0))])),(.ptr 20480 0,some (.box [.pv (.str t),.lst 1 9 cn cl true,.pv .nils,.pv (.str {data:=#[]}),.pv (.bool false),.pv (.int .i64 (Int.ofNat 0))])),(.pv (.int .i64 (IntKind.wrap .i64 (i+1))),none)]))) none) (some (.inr (.exit 0,[(.ptr 0 0,some (.box [.pv (.sl n l),.pv (.int .i64 (↑k:Int)),.pv (.int .u64 (seedK l k))])),(.ptr 12288 0,some (.box [.pv (.str s),.pv (.str h),.pv (pL xs),.pv (pL is)])),(.ptr 16384 0,some (.box [.pv (.str {data:=#[]}),.pv .nils,.pv .nils,.pv (.str {data:=#[]}),.pv (.bool false),.pv (.int .i64 (Int.ofNat 0))])),(.ptr 20480 0,some (.box [.pv (.str t),.lst 1 9 cn cl true,.pv .nils,.pv (.str {data:=#[]}),.pv (.bool false),.pv (.int .i64 (Int.ofNat 0))]))]))):=by kernel_rfl
theorem jhr (n:Nat) (l:List PV) (k:Nat) (s:ByteArray) (h:ByteArray) (t:ByteArray) (xs:List ByteArray) (is:List ByteArray) (wn:Nat) (wl:List PV) (i:Int):jpR brC n l k s h t xs is wn wl i=brC (decide (i>0)) (brC (decide ((↑ xs.length:Int)>0)) (brC (decide ((↑ xs.length:Int)<=1)) (brC (decide (0<=0)&&decide (0<(↑ xs.length:Int))) (brC (Nat.blt 0 (List.length (List.drop 0 (List.map PV.str xs)))&&PV.isStr (List.headD (List.drop 0 (List.map PV.str xs)) PV.nilp)&&true) (brC (srcOk n l (↑k:Int) (seedK l k)&&wfI 6 [PV.int .i64 1,PV.int .i64 1,PV.int .i64 1,PV.int .i64 2,PV.int .i64 3,PV.int .i64 4]) (brC (srcOk n l ((↑k:Int)+1) (seedK l (Int.toNat (↑k:Int)+1))&&wfT 8 [PV.str {data:=#[97,110,110]},PV.str {data:=#[98,111,98]},PV.str {data:=#[51]},PV.str {data:=#[49,50]},PV.str {data:=#[49]},PV.str {data:=#[50]},PV.str {data:=#[97]},PV.str {data:=#[]}]) (brC (Nat.beq (List.length [PV.str (PV.asStr (List.headD (List.drop 0 (List.map PV.str xs)) PV.nilp)),PV.int .i64 (jar l (Int.toNat (↑k:Int)) [PV.int .i64 1,PV.int .i64 1,PV.int .i64 1,PV.int .i64 2,PV.int .i64 3,PV.int .i64 4]),PV.str (textV l (Int.toNat ((↑k:Int)+1)) [PV.str {data:=#[97,110,110]},PV.str {data:=#[98,111,98]},PV.str {data:=#[51]},PV.str {data:=#[49,50]},PV.str {data:=#[49]},PV.str {data:=#[50]},PV.str {data:=#[97]},PV.str {data:=#[]}])]) (1*3)&&(decide (wn+1<=140737488351232)&&decide ((wn+1)*40<=140737488355328))) (some (.inl [(.ptr 0 0,some (.box [.pv (.sl n l),.pv (.int .i64 ((↑k:Int)+1+1)),.pv (.int .u64 (seedK l (Int.toNat ((↑k:Int)+1)+1)))])),(.ptr 12288 0,some (.box [.pv (.str s),.pv (.str h),.pv (pL xs),.pv (pL is)])),(.ptr 16384 0,some (.box [.pv (.str {data:=#[]}),.pv .nils,.pv .nils,.pv (.str {data:=#[]}),.pv (.bool false),.pv (.int .i64 (Int.ofNat 0))])),(.ptr 20480 0,some (.box [.pv (.str t),.pv .nils,.lst 3 63 (wn+1) (wl++[PV.str (PV.asStr (List.headD (List.drop 0 (List.map PV.str xs)) PV.nilp)),PV.int .i64 (jar l (Int.toNat (↑k:Int)) [PV.int .i64 1,PV.int .i64 1,PV.int .i64 1,PV.int .i64 2,PV.int .i64 3,PV.int .i64 4]),PV.str (textV l (Int.toNat ((↑k:Int)+1)) [PV.str {data:=#[97,110,110]},PV.str {data:=#[98,111,98]},PV.str {data:=#[51]},PV.str {data:=#[49,50]},PV.str {data:=#[49]},PV.str {data:=#[50]},PV.str {data:=#[97]},PV.str {data:=#[]}])]) true,.pv (.str {data:=#[]}),.pv (.bool false),.pv (.int .i64 (Int.ofNat 0))])),(.pv (.int .i64 (↑ xs.length:Int)),none),(.pv (.int .i64 (IntKind.wrap .i64 (i-1))),none)])) none) none) none) none) none) (brC (srcOk n l (↑k:Int) (seedK l k)&&decide ((↑ xs.length:Int)<=200)) (brC (decide (0<=pickV l (Int.toNat (↑k:Int)) (↑ xs.length:Int))&&decide (pickV l (Int.toNat (↑k:Int)) (↑ xs.length:Int)<(↑ xs.length:Int))) (brC (Nat.blt 0 (List.length (List.drop (Int.toNat (pickV l (Int.toNat (↑k:Int)) (↑ xs.length:Int))*1) (List.map PV.str xs)))&&PV.isStr (List.headD (List.drop (Int.toNat (pickV l (Int.toNat (↑k:Int)) (↑ xs.length:Int))*1) (List.map PV.str xs)) PV.nilp)&&true) (brC (srcOk n l ((↑k:Int)+1) (seedK l (Int.toNat (↑k:Int)+1))&&wfI 6 [PV.int .i64 1,PV.int .i64 1,PV.int .i64 1,PV.int .i64 2,PV.int .i64 3,PV.int .i64 4]) (brC (srcOk n l ((↑k:Int)+1+1) (seedK l (Int.toNat ((↑k:Int)+1)+1))&&wfT 8 [PV.str {data:=#[97,110,110]},PV.str {data:=#[98,111,98]},PV.str {data:=#[51]},PV.str {data:=#[49,50]},PV.str {data:=#[49]},PV.str {data:=#[50]},PV.str {data:=#[97]},PV.str {data:=#[]}]) (brC (Nat.beq (List.length [PV.str (PV.asStr (List.headD (List.drop (Int.toNat (pickV l (Int.toNat (↑k:Int)) (↑ xs.length:Int))*1) (List.map PV.str xs)) PV.nilp)),PV.int .i64 (jar l (Int.toNat ((↑k:Int)+1)) [PV.int .i64 1,PV.int .i64 1,PV.int .i64 1,PV.int .i64 2,PV.int .i64 3,PV.int .i64 4]),PV.str (textV l (Int.toNat ((↑k:Int)+1+1)) [PV.str {data:=#[97,110,110]},PV.str {data:=#[98,111,98]},PV.str {data:=#[51]},PV.str {data:=#[49,50]},PV.str {data:=#[49]},PV.str {data:=#[50]},PV.str {data:=#[97]},PV.str {data:=#[]}])]) (1*3)&&(decide (wn+1<=140737488351232)&&decide ((wn+1)*40<=140737488355328))) (some (.inl [(.ptr 0 0,some (.box [.pv (.sl n l),.pv (.int .i64 ((↑k:Int)+1+1+1)),.pv (.int .u64 (seedK l (Int.toNat ((↑k:Int)+1+1)+1)))])),(.ptr 12288 0,some (.box [.pv (.str s),.pv (.str h),.pv (pL xs),.pv (pL is)])),(.ptr 16384 0,some (.box [.pv (.str {data:=#[]}),.pv .nils,.pv .nils,.pv (.str {data:=#[]}),.pv (.bool false),.pv (.int .i64 (Int.ofNat 0))])),(.ptr 20480 0,some (.box [.pv (.str t),.pv .nils,.lst 3 63 (wn+1) (wl++[PV.str (PV.asStr (List.headD (List.drop (Int.toNat (pickV l (Int.toNat (↑k:Int)) (↑ xs.length:Int))*1) (List.map PV.str xs)) PV.nilp)),PV.int .i64 (jar l (Int.toNat ((↑k:Int)+1)) [PV.int .i64 1,PV.int .i64 1,PV.int .i64 1,PV.int .i64 2,PV.int .i64 3,PV.int .i64 4]),PV.str (textV l (Int.toNat ((↑k:Int)+1+1)) [PV.str {data:=#[97,110,110]},PV.str {data:=#[98,111,98]},PV.str {data:=#[51]},PV.str {data:=#[49,50]},PV.str {data:=#[49]},PV.str {data:=#[50]},PV.str {data:=#[97]},PV.str {data:=#[]}])]) true,.pv (.str {data:=#[]}),.pv (.bool false),.pv (.int .i64 (Int.ofNat 0))])),(.pv (.int .i64 (↑ xs.length:Int)),none),(.pv (.int .i64 (IntKind.wrap .i64 (i-1))),none)])) none) none) none) none) none) none)) (some (.inr (.exit 2,[(.ptr 0 0,some (.box [.pv (.sl n l),.pv (.int .i64 (↑k:Int)),.pv (.int .u64 (seedK l k))])),(.ptr 12288 0,some (.box [.pv (.str s),.pv (.str h),.pv (pL xs),.pv (pL is)])),(.ptr 16384 0,some (.box [.pv (.str {data:=#[]}),.pv .nils,.pv .nils,.pv (.str {data:=#[]}),.pv (.bool false),.pv (.int .i64 (Int.ofNat 0))])),(.ptr 20480 0,some (.box [.pv (.str t),.pv .nils,.lst 3 63 wn wl true,.pv (.str {data:=#[]}),.pv (.bool false),.pv (.int .i64 (Int.ofNat 0))])),(.pv (.int .i64 (↑ xs.length:Int)),none)])))) (some (.inr (.exit 2,[(.ptr 0 0,some (.box [.pv (.sl n l),.pv (.int .i64 (↑k:Int)),.pv (.int .u64 (seedK l k))])),(.ptr 12288 0,some (.box [.pv (.str s),.pv (.str h),.pv (pL xs),.pv (pL is)])),(.ptr 16384 0,some (.box [.pv (.str {data:=#[]}),.pv .nils,.pv .nils,.pv (.str {data:=#[]}),.pv (.bool false),.pv (.int .i64 (Int.ofNat 0))])),(.ptr 20480 0,some (.box [.pv (.str t),.pv .nils,.lst 3 63 wn wl true,.pv (.str {data:=#[]}),.pv (.bool false),.pv (.int .i64 (Int.ofNat 0))])),(.pv (.int .i64 (↑ xs.length:Int)),none)]))):=by kernel_rfl
theorem jgN (n:Nat) (l:List PV) (k:Nat) (s:ByteArray) (h:ByteArray) (t:ByteArray) (xs:List ByteArray) (is:List ByteArray) (cn:Nat) (cl:List PV) (wn:Nat) (wl:List PV) (i:Int):jpP brC n l k s h t xs is cn cl wn wl i=brC (decide (i>0)) (brC (decide ((↑ xs.length:Int)>0)) (brC (decide ((↑ xs.length:Int)<=1)) (brC (decide (0<=0)&&decide (0<(↑ xs.length:Int))) (brC (Nat.blt 0 (List.length (List.drop 0 (List.map PV.str xs)))&&PV.isStr (List.headD (List.drop 0 (List.map PV.str xs)) PV.nilp)&&true) (brC (srcOk n l (↑k:Int) (seedK l k)&&wfI 6 [PV.int .i64 1,PV.int .i64 1,PV.int .i64 1,PV.int .i64 2,PV.int .i64 3,PV.int .i64 4]) (brC (srcOk n l ((↑k:Int)+1) (seedK l (Int.toNat (↑k:Int)+1))&&wfT 8 [PV.str {data:=#[97,110,110]},PV.str {data:=#[98,111,98]},PV.str {data:=#[51]},PV.str {data:=#[49,50]},PV.str {data:=#[49]},PV.str {data:=#[50]},PV.str {data:=#[97]},PV.str {data:=#[]}]) (brC (Nat.beq (List.length [PV.str (PV.asStr (List.headD (List.drop 0 (List.map PV.str xs)) PV.nilp)),PV.int .i64 (jar l (Int.toNat (↑k:Int)) [PV.int .i64 1,PV.int .i64 1,PV.int .i64 1,PV.int .i64 2,PV.int .i64 3,PV.int .i64 4]),PV.str (textV l (Int.toNat ((↑k:Int)+1)) [PV.str {data:=#[97,110,110]},PV.str {data:=#[98,111,98]},PV.str {data:=#[51]},PV.str {data:=#[49,50]},PV.str {data:=#[49]},PV.str {data:=#[50]},PV.str {data:=#[97]},PV.str {data:=#[]}])]) (1*3)&&(decide (wn+1<=140737488351232)&&decide ((wn+1)*40<=140737488355328))) (some (.inl [(.ptr 0 0,some (.box [.pv (.sl n l),.pv (.int .i64 ((↑k:Int)+1+1)),.pv (.int .u64 (seedK l (Int.toNat ((↑k:Int)+1)+1)))])),(.ptr 12288 0,some (.box [.pv (.str s),.pv (.str h),.pv (pL xs),.pv (pL is)])),(.ptr 16384 0,some (.box [.pv (.str {data:=#[]}),.pv .nils,.pv .nils,.pv (.str {data:=#[]}),.pv (.bool false),.pv (.int .i64 (Int.ofNat 0))])),(.ptr 20480 0,some (.box [.pv (.str t),.lst 1 9 cn cl true,.lst 3 63 (wn+1) (wl++[PV.str (PV.asStr (List.headD (List.drop 0 (List.map PV.str xs)) PV.nilp)),PV.int .i64 (jar l (Int.toNat (↑k:Int)) [PV.int .i64 1,PV.int .i64 1,PV.int .i64 1,PV.int .i64 2,PV.int .i64 3,PV.int .i64 4]),PV.str (textV l (Int.toNat ((↑k:Int)+1)) [PV.str {data:=#[97,110,110]},PV.str {data:=#[98,111,98]},PV.str {data:=#[51]},PV.str {data:=#[49,50]},PV.str {data:=#[49]},PV.str {data:=#[50]},PV.str {data:=#[97]},PV.str {data:=#[]}])]) true,.pv (.str {data:=#[]}),.pv (.bool false),.pv (.int .i64 (Int.ofNat 0))])),(.pv (.int .i64 (↑ xs.length:Int)),none),(.pv (.int .i64 (IntKind.wrap .i64 (i-1))),none)])) none) none) none) none) none) (brC (srcOk n l (↑k:Int) (seedK l k)&&decide ((↑ xs.length:Int)<=200)) (brC (decide (0<=pickV l (Int.toNat (↑k:Int)) (↑ xs.length:Int))&&decide (pickV l (Int.toNat (↑k:Int)) (↑ xs.length:Int)<(↑ xs.length:Int))) (brC (Nat.blt 0 (List.length (List.drop (Int.toNat (pickV l (Int.toNat (↑k:Int)) (↑ xs.length:Int))*1) (List.map PV.str xs)))&&PV.isStr (List.headD (List.drop (Int.toNat (pickV l (Int.toNat (↑k:Int)) (↑ xs.length:Int))*1) (List.map PV.str xs)) PV.nilp)&&true) (brC (srcOk n l ((↑k:Int)+1) (seedK l (Int.toNat (↑k:Int)+1))&&wfI 6 [PV.int .i64 1,PV.int .i64 1,PV.int .i64 1,PV.int .i64 2,PV.int .i64 3,PV.int .i64 4]) (brC (srcOk n l ((↑k:Int)+1+1) (seedK l (Int.toNat ((↑k:Int)+1)+1))&&wfT 8 [PV.str {data:=#[97,110,110]},PV.str {data:=#[98,111,98]},PV.str {data:=#[51]},PV.str {data:=#[49,50]},PV.str {data:=#[49]},PV.str {data:=#[50]},PV.str {data:=#[97]},PV.str {data:=#[]}]) (brC (Nat.beq (List.length [PV.str (PV.asStr (List.headD (List.drop (Int.toNat (pickV l (Int.toNat (↑k:Int)) (↑ xs.length:Int))*1) (List.map PV.str xs)) PV.nilp)),PV.int .i64 (jar l (Int.toNat ((↑k:Int)+1)) [PV.int .i64 1,PV.int .i64 1,PV.int .i64 1,PV.int .i64 2,PV.int .i64 3,PV.int .i64 4]),PV.str (textV l (Int.toNat ((↑k:Int)+1+1)) [PV.str {data:=#[97,110,110]},PV.str {data:=#[98,111,98]},PV.str {data:=#[51]},PV.str {data:=#[49,50]},PV.str {data:=#[49]},PV.str {data:=#[50]},PV.str {data:=#[97]},PV.str {data:=#[]}])]) (1*3)&&(decide (wn+1<=140737488351232)&&decide ((wn+1)*40<=140737488355328))) (some (.inl [(.ptr 0 0,some (.box [.pv (.sl n l),.pv (.int .i64 ((↑k:Int)+1+1+1)),.pv (.int .u64 (seedK l (Int.toNat ((↑k:Int)+1+1)+1)))])),(.ptr 12288 0,some (.box [.pv (.str s),.pv (.str h),.pv (pL xs),.pv (pL is)])),(.ptr 16384 0,some (.box [.pv (.str {data:=#[]}),.pv .nils,.pv .nils,.pv (.str {data:=#[]}),.pv (.bool false),.pv (.int .i64 (Int.ofNat 0))])),(.ptr 20480 0,some (.box [.pv (.str t),.lst 1 9 cn cl true,.lst 3 63 (wn+1) (wl++[PV.str (PV.asStr (List.headD (List.drop (Int.toNat (pickV l (Int.toNat (↑k:Int)) (↑ xs.length:Int))*1) (List.map PV.str xs)) PV.nilp)),PV.int .i64 (jar l (Int.toNat ((↑k:Int)+1)) [PV.int .i64 1,PV.int .i64 1,PV.int .i64 1,PV.int .i64 2,PV.int .i64 3,PV.int .i64 4]),PV.str (textV l (Int.toNat ((↑k:Int)+1+1)) [PV.str {data:=#[97,110,110]},PV.str {data:=#[98,111,98]},PV.str {data:=#[51]},PV.str {data:=#[49,50]},PV.str {data:=#[49]},PV.str {data:=#[50]},PV.str {data:=#[97]},PV.str {data:=#[]}])]) true,.pv (.str {data:=#[]}),.pv (.bool false),.pv (.int .i64 (Int.ofNat 0))])),(.pv (.int .i64 (↑ xs.length:Int)),none),(.pv (.int .i64 (IntKind.wrap .i64 (i-1))),none)])) none) none) none) none) none) none)) (some (.inr (.exit 2,[(.ptr 0 0,some (.box [.pv (.sl n l),.pv (.int .i64 (↑k:Int)),.pv (.int .u64 (seedK l k))])),(.ptr 12288 0,some (.box [.pv (.str s),.pv (.str h),.pv (pL xs),.pv (pL is)])),(.ptr 16384 0,some (.box [.pv (.str {data:=#[]}),.pv .nils,.pv .nils,.pv (.str {data:=#[]}),.pv (.bool false),.pv (.int .i64 (Int.ofNat 0))])),(.ptr 20480 0,some (.box [.pv (.str t),.lst 1 9 cn cl true,.lst 3 63 wn wl true,.pv (.str {data:=#[]}),.pv (.bool false),.pv (.int .i64 (Int.ofNat 0))])),(.pv (.int .i64 (↑ xs.length:Int)),none)])))) (some (.inr (.exit 2,[(.ptr 0 0,some (.box [.pv (.sl n l),.pv (.int .i64 (↑k:Int)),.pv (.int .u64 (seedK l k))])),(.ptr 12288 0,some (.box [.pv (.str s),.pv (.str h),.pv (pL xs),.pv (pL is)])),(.ptr 16384 0,some (.box [.pv (.str {data:=#[]}),.pv .nils,.pv .nils,.pv (.str {data:=#[]}),.pv (.bool false),.pv (.int .i64 (Int.ofNat 0))])),(.ptr 20480 0,some (.box [.pv (.str t),.lst 1 9 cn cl true,.lst 3 63 wn wl true,.pv (.str {data:=#[]}),.pv (.bool false),.pv (.int .i64 (Int.ofNat 0))])),(.pv (.int .i64 (↑ xs.length:Int)),none)]))):=by kernel_rfl
theorem jgC (n:Nat) (l:List PV) (k:Nat) (s:ByteArray) (h:ByteArray) (t:ByteArray) (xs:List ByteArray) (is:List ByteArray) (cn:Nat) (cl:List PV) (i:Int):jp0 brC n l k s h t xs is cn cl i=brC (decide (i>0)) (brC (decide ((↑ xs.length:Int)>0)) (brC (decide ((↑ xs.length:Int)<=1)) (brC (decide (0<=0)&&decide (0<(↑ xs.length:Int))) (brC (Nat.blt 0 (List.length (List.drop 0 (List.map PV.str xs)))&&PV.isStr (List.headD (List.drop 0 (List.map PV.str xs)) PV.nilp)&&true) (brC (srcOk n l (↑k:Int) (seedK l k)&&wfI 6 [PV.int .i64 1,PV.int .i64 1,PV.int .i64 1,PV.int .i64 2,PV.int .i64 3,PV.int .i64 4]) (brC (srcOk n l ((↑k:Int)+1) (seedK l (Int.toNat (↑k:Int)+1))&&wfT 8 [PV.str {data:=#[97,110,110]},PV.str {data:=#[98,111,98]},PV.str {data:=#[51]},PV.str {data:=#[49,50]},PV.str {data:=#[49]},PV.str {data:=#[50]},PV.str {data:=#[97]},PV.str {data:=#[]}]) (some (.inl [(.ptr 0 0,some (.box [.pv (.sl n l),.pv (.int .i64 ((↑k:Int)+1+1)),.pv (.int .u64 (seedK l (Int.toNat ((↑k:Int)+1)+1)))])),(.ptr 12288 0,some (.box [.pv (.str s),.pv (.str h),.pv (pL xs),.pv (pL is)])),(.ptr 16384 0,some (.box [.pv (.str {data:=#[]}),.pv .nils,.pv .nils,.pv (.str {data:=#[]}),.pv (.bool false),.pv (.int .i64 (Int.ofNat 0))])),(.ptr 20480 0,some (.box [.pv (.str t),.lst 1 9 cn cl true,.lst 3 63 1 [PV.str (PV.asStr (List.headD (List.drop 0 (List.map PV.str xs)) PV.nilp)),PV.int .i64 (jar l (Int.toNat (↑k:Int)) [PV.int .i64 1,PV.int .i64 1,PV.int .i64 1,PV.int .i64 2,PV.int .i64 3,PV.int .i64 4]),PV.str (textV l (Int.toNat ((↑k:Int)+1)) [PV.str {data:=#[97,110,110]},PV.str {data:=#[98,111,98]},PV.str {data:=#[51]},PV.str {data:=#[49,50]},PV.str {data:=#[49]},PV.str {data:=#[50]},PV.str {data:=#[97]},PV.str {data:=#[]}])] true,.pv (.str {data:=#[]}),.pv (.bool false),.pv (.int .i64 (Int.ofNat 0))])),(.pv (.int .i64 (↑ xs.length:Int)),none),(.pv (.int .i64 (IntKind.wrap .i64 (i-1))),none)])) none) none) none) none) (brC (srcOk n l (↑k:Int) (seedK l k)&&decide ((↑ xs.length:Int)<=200)) (brC (decide (0<=pickV l (Int.toNat (↑k:Int)) (↑ xs.length:Int))&&decide (pickV l (Int.toNat (↑k:Int)) (↑ xs.length:Int)<(↑ xs.length:Int))) (brC (Nat.blt 0 (List.length (List.drop (Int.toNat (pickV l (Int.toNat (↑k:Int)) (↑ xs.length:Int))*1) (List.map PV.str xs)))&&PV.isStr (List.headD (List.drop (Int.toNat (pickV l (Int.toNat (↑k:Int)) (↑ xs.length:Int))*1) (List.map PV.str xs)) PV.nilp)&&true) (brC (srcOk n l ((↑k:Int)+1) (seedK l (Int.toNat (↑k:Int)+1))&&wfI 6 [PV.int .i64 1,PV.int .i64 1,PV.int .i64 1,PV.int .i64 2,PV.int .i64 3,PV.int .i64 4]) (brC (srcOk n l ((↑k:Int)+1+1) (seedK l (Int.toNat ((↑k:Int)+1)+1))&&wfT 8 [PV.str {data:=#[97,110,110]},PV.str {data:=#[98,111,98]},PV.str {data:=#[51]},PV.str {data:=#[49,50]},PV.str {data:=#[49]},PV.str {data:=#[50]},PV.str {data:=#[97]},PV.str {data:=#[]}]) (some (.inl [(.ptr 0 0,some (.box [.pv (.sl n l),.pv (.int .i64 ((↑k:Int)+1+1+1)),.pv (.int .u64 (seedK l (Int.toNat ((↑k:Int)+1+1)+1)))])),(.ptr 12288 0,some (.box [.pv (.str s),.pv (.str h),.pv (pL xs),.pv (pL is)])),(.ptr 16384 0,some (.box [.pv (.str {data:=#[]}),.pv .nils,.pv .nils,.pv (.str {data:=#[]}),.pv (.bool false),.pv (.int .i64 (Int.ofNat 0))])),(.ptr 20480 0,some (.box [.pv (.str t),.lst 1 9 cn cl true,.lst 3 63 1 [PV.str (PV.asStr (List.headD (List.drop (Int.toNat (pickV l (Int.toNat (↑k:Int)) (↑ xs.length:Int))*1) (List.map PV.str xs)) PV.nilp)),PV.int .i64 (jar l (Int.toNat ((↑k:Int)+1)) [PV.int .i64 1,PV.int .i64 1,PV.int .i64 1,PV.int .i64 2,PV.int .i64 3,PV.int .i64 4]),PV.str (textV l (Int.toNat ((↑k:Int)+1+1)) [PV.str {data:=#[97,110,110]},PV.str {data:=#[98,111,98]},PV.str {data:=#[51]},PV.str {data:=#[49,50]},PV.str {data:=#[49]},PV.str {data:=#[50]},PV.str {data:=#[97]},PV.str {data:=#[]}])] true,.pv (.str {data:=#[]}),.pv (.bool false),.pv (.int .i64 (Int.ofNat 0))])),(.pv (.int .i64 (↑ xs.length:Int)),none),(.pv (.int .i64 (IntKind.wrap .i64 (i-1))),none)])) none) none) none) none) none)) (some (.inr (.exit 2,[(.ptr 0 0,some (.box [.pv (.sl n l),.pv (.int .i64 (↑k:Int)),.pv (.int .u64 (seedK l k))])),(.ptr 12288 0,some (.box [.pv (.str s),.pv (.str h),.pv (pL xs),.pv (pL is)])),(.ptr 16384 0,some (.box [.pv (.str {data:=#[]}),.pv .nils,.pv .nils,.pv (.str {data:=#[]}),.pv (.bool false),.pv (.int .i64 (Int.ofNat 0))])),(.ptr 20480 0,some (.box [.pv (.str t),.lst 1 9 cn cl true,.pv .nils,.pv (.str {data:=#[]}),.pv (.bool false),.pv (.int .i64 (Int.ofNat 0))])),(.pv (.int .i64 (↑ xs.length:Int)),none)])))) (some (.inr (.exit 2,[(.ptr 0 0,some (.box [.pv (.sl n l),.pv (.int .i64 (↑k:Int)),.pv (.int .u64 (seedK l k))])),(.ptr 12288 0,some (.box [.pv (.str s),.pv (.str h),.pv (pL xs),.pv (pL is)])),(.ptr 16384 0,some (.box [.pv (.str {data:=#[]}),.pv .nils,.pv .nils,.pv (.str {data:=#[]}),.pv (.bool false),.pv (.int .i64 (Int.ofNat 0))])),(.ptr 20480 0,some (.box [.pv (.str t),.lst 1 9 cn cl true,.pv .nils,.pv (.str {data:=#[]}),.pv (.bool false),.pv (.int .i64 (Int.ofNat 0))])),(.pv (.int .i64 (↑ xs.length:Int)),none)]))):=by kernel_rfl
theorem jhf (n:Nat) (l:List PV) (k:Nat) (s:ByteArray) (h:ByteArray) (t:ByteArray) (xs:List ByteArray) (is:List ByteArray) (i:Int):jql brC n l k s h t xs is i=brC (decide (i>0)) (brC (decide ((↑ xs.length:Int)>0)) (brC (decide ((↑ xs.length:Int)<=1)) (brC (decide (0<=0)&&decide (0<(↑ xs.length:Int))) (brC (Nat.blt 0 (List.length (List.drop 0 (List.map PV.str xs)))&&PV.isStr (List.headD (List.drop 0 (List.map PV.str xs)) PV.nilp)&&true) (brC (srcOk n l (↑k:Int) (seedK l k)&&wfI 6 [PV.int .i64 1,PV.int .i64 1,PV.int .i64 1,PV.int .i64 2,PV.int .i64 3,PV.int .i64 4]) (brC (srcOk n l ((↑k:Int)+1) (seedK l (Int.toNat (↑k:Int)+1))&&wfT 8 [PV.str {data:=#[97,110,110]},PV.str {data:=#[98,111,98]},PV.str {data:=#[51]},PV.str {data:=#[49,50]},PV.str {data:=#[49]},PV.str {data:=#[50]},PV.str {data:=#[97]},PV.str {data:=#[]}]) (some (.inl [(.ptr 0 0,some (.box [.pv (.sl n l),.pv (.int .i64 ((↑k:Int)+1+1)),.pv (.int .u64 (seedK l (Int.toNat ((↑k:Int)+1)+1)))])),(.ptr 12288 0,some (.box [.pv (.str s),.pv (.str h),.pv (pL xs),.pv (pL is)])),(.ptr 16384 0,some (.box [.pv (.str {data:=#[]}),.pv .nils,.pv .nils,.pv (.str {data:=#[]}),.pv (.bool false),.pv (.int .i64 (Int.ofNat 0))])),(.ptr 20480 0,some (.box [.pv (.str t),.pv .nils,.lst 3 63 1 [PV.str (PV.asStr (List.headD (List.drop 0 (List.map PV.str xs)) PV.nilp)),PV.int .i64 (jar l (Int.toNat (↑k:Int)) [PV.int .i64 1,PV.int .i64 1,PV.int .i64 1,PV.int .i64 2,PV.int .i64 3,PV.int .i64 4]),PV.str (textV l (Int.toNat ((↑k:Int)+1)) [PV.str {data:=#[97,110,110]},PV.str {data:=#[98,111,98]},PV.str {data:=#[51]},PV.str {data:=#[49,50]},PV.str {data:=#[49]},PV.str {data:=#[50]},PV.str {data:=#[97]},PV.str {data:=#[]}])] true,.pv (.str {data:=#[]}),.pv (.bool false),.pv (.int .i64 (Int.ofNat 0))])),(.pv (.int .i64 (↑ xs.length:Int)),none),(.pv (.int .i64 (IntKind.wrap .i64 (i-1))),none)])) none) none) none) none) (brC (srcOk n l (↑k:Int) (seedK l k)&&decide ((↑ xs.length:Int)<=200)) (brC (decide (0<=pickV l (Int.toNat (↑k:Int)) (↑ xs.length:Int))&&decide (pickV l (Int.toNat (↑k:Int)) (↑ xs.length:Int)<(↑ xs.length:Int))) (brC (Nat.blt 0 (List.length (List.drop (Int.toNat (pickV l (Int.toNat (↑k:Int)) (↑ xs.length:Int))*1) (List.map PV.str xs)))&&PV.isStr (List.headD (List.drop (Int.toNat (pickV l (Int.toNat (↑k:Int)) (↑ xs.length:Int))*1) (List.map PV.str xs)) PV.nilp)&&true) (brC (srcOk n l ((↑k:Int)+1) (seedK l (Int.toNat (↑k:Int)+1))&&wfI 6 [PV.int .i64 1,PV.int .i64 1,PV.int .i64 1,PV.int .i64 2,PV.int .i64 3,PV.int .i64 4]) (brC (srcOk n l ((↑k:Int)+1+1) (seedK l (Int.toNat ((↑k:Int)+1)+1))&&wfT 8 [PV.str {data:=#[97,110,110]},PV.str {data:=#[98,111,98]},PV.str {data:=#[51]},PV.str {data:=#[49,50]},PV.str {data:=#[49]},PV.str {data:=#[50]},PV.str {data:=#[97]},PV.str {data:=#[]}]) (some (.inl [(.ptr 0 0,some (.box [.pv (.sl n l),.pv (.int .i64 ((↑k:Int)+1+1+1)),.pv (.int .u64 (seedK l (Int.toNat ((↑k:Int)+1+1)+1)))])),(.ptr 12288 0,some (.box [.pv (.str s),.pv (.str h),.pv (pL xs),.pv (pL is)])),(.ptr 16384 0,some (.box [.pv (.str {data:=#[]}),.pv .nils,.pv .nils,.pv (.str {data:=#[]}),.pv (.bool false),.pv (.int .i64 (Int.ofNat 0))])),(.ptr 20480 0,some (.box [.pv (.str t),.pv .nils,.lst 3 63 1 [PV.str (PV.asStr (List.headD (List.drop (Int.toNat (pickV l (Int.toNat (↑k:Int)) (↑ xs.length:Int))*1) (List.map PV.str xs)) PV.nilp)),PV.int .i64 (jar l (Int.toNat ((↑k:Int)+1)) [PV.int .i64 1,PV.int .i64 1,PV.int .i64 1,PV.int .i64 2,PV.int .i64 3,PV.int .i64 4]),PV.str (textV l (Int.toNat ((↑k:Int)+1+1)) [PV.str {data:=#[97,110,110]},PV.str {data:=#[98,111,98]},PV.str {data:=#[51]},PV.str {data:=#[49,50]},PV.str {data:=#[49]},PV.str {data:=#[50]},PV.str {data:=#[97]},PV.str {data:=#[]}])] true,.pv (.str {data:=#[]}),.pv (.bool false),.pv (.int .i64 (Int.ofNat 0))])),(.pv (.int .i64 (↑ xs.length:Int)),none),(.pv (.int .i64 (IntKind.wrap .i64 (i-1))),none)])) none) none) none) none) none)) (some (.inr (.exit 2,[(.ptr 0 0,some (.box [.pv (.sl n l),.pv (.int .i64 (↑k:Int)),.pv (.int .u64 (seedK l k))])),(.ptr 12288 0,some (.box [.pv (.str s),.pv (.str h),.pv (pL xs),.pv (pL is)])),(.ptr 16384 0,some (.box [.pv (.str {data:=#[]}),.pv .nils,.pv .nils,.pv (.str {data:=#[]}),.pv (.bool false),.pv (.int .i64 (Int.ofNat 0))])),(.ptr 20480 0,some (.box [.pv (.str t),.pv .nils,.pv .nils,.pv (.str {data:=#[]}),.pv (.bool false),.pv (.int .i64 (Int.ofNat 0))])),(.pv (.int .i64 (↑ xs.length:Int)),none)])))) (some (.inr (.exit 2,[(.ptr 0 0,some (.box [.pv (.sl n l),.pv (.int .i64 (↑k:Int)),.pv (.int .u64 (seedK l k))])),(.ptr 12288 0,some (.box [.pv (.str s),.pv (.str h),.pv (pL xs),.pv (pL is)])),(.ptr 16384 0,some (.box [.pv (.str {data:=#[]}),.pv .nils,.pv .nils,.pv (.str {data:=#[]}),.pv (.bool false),.pv (.int .i64 (Int.ofNat 0))])),(.ptr 20480 0,some (.box [.pv (.str t),.pv .nils,.pv .nils,.pv (.str {data:=#[]}),.pv (.bool false),.pv (.int .i64 (Int.ofNat 0))])),(.pv (.int .i64 (↑ xs.length:Int)),none)]))):=by kernel_rfl
def zzaq0 (n:Nat) (l:List PV) (k:Nat) (b:TblT):=(↑ (plD (asL (pL (TblT.cols b))) (Int.toNat (pickV l (Int.toNat (↑ (Int.toNat (↑k:Int)+List.length (asL (pL (TblT.cols b)))):Int)) 3)) (Int.toNat ((↑ (Int.toNat (↑k:Int)+List.length (asL (pL (TblT.cols b)))):Int)+1))):Int)
def zzaq1 (n:Nat) (l:List PV) (k:Nat) (b:TblT):=(↑ (Int.toNat (↑k:Int)+List.length (asL (pL (TblT.cols b)))):Int)
def zzaq2 (n:Nat) (l:List PV) (k:Nat) (b:TblT):=(jcP l (asL (pL (TblT.cols b))) (Int.toNat (pickV l (Int.toNat (zzaq1 n l k b)) 3)) (Int.toNat ((zzaq1 n l k b)+1)))
def zzaq3 (n:Nat) (l:List PV) (k:Nat) (b:TblT):=(colsH l (asL (pL (TblT.cols b))) (Int.toNat (↑k:Int)))
def zzaq4 (n:Nat) (l:List PV) (k:Nat) (b:TblT):=(List.drop (Int.toNat (pickV l (Int.toNat ((zzaq1 n l k b)+1+1)) (↑ (List.length (TblT.cols b)):Int))*1) (List.map PV.str (TblT.cols b)))
def zzaq5 (n:Nat) (l:List PV) (k:Nat) (b:TblT):=(List.drop (Int.toNat (pickV l (Int.toNat ((zzaq0 n l k b)+1)) (↑ (List.length (TblT.cols b)):Int))*1) (List.map PV.str (TblT.cols b)))
def zzaq6 (n:Nat) (l:List PV) (k:Nat) (b:TblT):=(List.headD (List.drop 0 (List.map PV.str (TblT.cols b))) PV.nilp)
theorem jo6 (n:Nat) (l:List PV) (k:Nat) (b:TblT):q_Dw brC n l k b=brC (srcOk n l (↑k:Int) (seedK l k)&&isL (pL b.cols)&&isL (pL b.idxs)&&Nat.beq 12288 12288&&Nat.beq 16384 16384&&Nat.beq 20480 20480&&eqB {data:=#[]} []&&eqB {data:=#[]} []&&!false&&0==0&&eqB {data:=#[]} []&&!false&&0==0&&0==0&&decide ((↑k:Int)<=400000)&&decide (List.length (asL (pL b.cols))<=10)&&List.isEmpty (zzaq3 n l k b)) (brC (srcOk n l (zzaq1 n l k b) (seedK l (Int.toNat (↑k:Int)+List.length (asL (pL b.cols))))&&decide (3<=200)) (brC (G9 n l ((zzaq1 n l k b)+1) (seedK l (Int.toNat (zzaq1 n l k b)+1)) (pL b.cols) (pL b.idxs) 12288 16384 20480 {data:=#[]} {data:=#[]} false 0 {data:=#[]} false 0 (↑ b.cols.length:Int) (pickV l (Int.toNat (zzaq1 n l k b)) 3)&&(decide (pickV l (Int.toNat (zzaq1 n l k b)) 3<=0)||decide ((↑ b.cols.length:Int)<=0))) (brC (srcOk n l ((zzaq1 n l k b)+1) (seedK l (Int.toNat (zzaq1 n l k b)+1))&&decide (2<=200)&&decide (2<=2)) (brC (pickV l (Int.toNat ((zzaq1 n l k b)+1)) 2==0) (brC (decide ((↑ b.cols.length:Int)>0)) (brC (decide ((↑ b.cols.length:Int)<=1)) (brC (decide (0<=0)&&decide (0<(↑ b.cols.length:Int))) (brC (Nat.blt 0 (List.length (List.drop 0 (List.map PV.str b.cols)))&&PV.isStr (zzaq6 n l k b)&&true) (brC (srcOk n l ((zzaq1 n l k b)+1+1) (seedK l (Int.toNat ((zzaq1 n l k b)+1)+1))&&decide (2<=200)&&decide (2<=2)) (brC (srcOk n l ((zzaq1 n l k b)+1+1+1) (seedK l (Int.toNat ((zzaq1 n l k b)+1+1)+1))&&decide (3<=200)&&decide (2<=3)) (brC (pickV l (Int.toNat ((zzaq1 n l k b)+1+1+1)) 3==0) (brC (srcOk n l ((zzaq1 n l k b)+1+1+1+1) (seedK l (Int.toNat ((zzaq1 n l k b)+1+1+1)+1))&&decide (4<=200)) (some ((.agg [.pv (.str b.name),.pv .nils,.pv .nils,.pv (.str (PV.asStr (zzaq6 n l k b))),.pv (.bool (pickV l (Int.toNat ((zzaq1 n l k b)+1+1)) 2==0)),.pv (.int .i64 (IntKind.wrap .i64 (1+pickV l (Int.toNat ((zzaq1 n l k b)+1+1+1+1)) 4)))],[[.pv (.sl n l),.pv (.int .i64 ((zzaq1 n l k b)+1+1+1+1+1)),.pv (.int .u64 (seedK l (Int.toNat ((zzaq1 n l k b)+1+1+1+1)+1)))]]))) none) (some ((.agg [.pv (.str b.name),.pv .nils,.pv .nils,.pv (.str (PV.asStr (zzaq6 n l k b))),.pv (.bool (pickV l (Int.toNat ((zzaq1 n l k b)+1+1)) 2==0)),.pv (.int .i64 (Int.ofNat 0))],[[.pv (.sl n l),.pv (.int .i64 ((zzaq1 n l k b)+1+1+1+1)),.pv (.int .u64 (seedK l (Int.toNat ((zzaq1 n l k b)+1+1+1)+1)))]])))) none) none) none) none) (brC (srcOk n l ((zzaq1 n l k b)+1+1) (seedK l (Int.toNat ((zzaq1 n l k b)+1)+1))&&decide ((↑ b.cols.length:Int)<=200)) (brC (decide (0<=pickV l (Int.toNat ((zzaq1 n l k b)+1+1)) (↑ b.cols.length:Int))&&decide (pickV l (Int.toNat ((zzaq1 n l k b)+1+1)) (↑ b.cols.length:Int)<(↑ b.cols.length:Int))) (brC (Nat.blt 0 (List.length (zzaq4 n l k b))&&PV.isStr (List.headD (zzaq4 n l k b) PV.nilp)&&true) (brC (srcOk n l ((zzaq1 n l k b)+1+1+1) (seedK l (Int.toNat ((zzaq1 n l k b)+1+1)+1))&&decide (2<=200)&&decide (2<=2)) (brC (srcOk n l ((zzaq1 n l k b)+1+1+1+1) (seedK l (Int.toNat ((zzaq1 n l k b)+1+1+1)+1))&&decide (3<=200)&&decide (2<=3)) (brC (pickV l (Int.toNat ((zzaq1 n l k b)+1+1+1+1)) 3==0) (brC (srcOk n l ((zzaq1 n l k b)+1+1+1+1+1) (seedK l (Int.toNat ((zzaq1 n l k b)+1+1+1+1)+1))&&decide (4<=200)) (some ((.agg [.pv (.str b.name),.pv .nils,.pv .nils,.pv (.str (PV.asStr (List.headD (zzaq4 n l k b) PV.nilp))),.pv (.bool (pickV l (Int.toNat ((zzaq1 n l k b)+1+1+1)) 2==0)),.pv (.int .i64 (IntKind.wrap .i64 (1+pickV l (Int.toNat ((zzaq1 n l k b)+1+1+1+1+1)) 4)))],[[.pv (.sl n l),.pv (.int .i64 ((zzaq1 n l k b)+1+1+1+1+1+1)),.pv (.int .u64 (seedK l (Int.toNat ((zzaq1 n l k b)+1+1+1+1+1)+1)))]]))) none) (some ((.agg [.pv (.str b.name),.pv .nils,.pv .nils,.pv (.str (PV.asStr (List.headD (zzaq4 n l k b) PV.nilp))),.pv (.bool (pickV l (Int.toNat ((zzaq1 n l k b)+1+1+1)) 2==0)),.pv (.int .i64 (Int.ofNat 0))],[[.pv (.sl n l),.pv (.int .i64 ((zzaq1 n l k b)+1+1+1+1+1)),.pv (.int .u64 (seedK l (Int.toNat ((zzaq1 n l k b)+1+1+1+1)+1)))]])))) none) none) none) none) none)) (brC (srcOk n l ((zzaq1 n l k b)+1+1) (seedK l (Int.toNat ((zzaq1 n l k b)+1)+1))&&decide (3<=200)&&decide (2<=3)) (brC (pickV l (Int.toNat ((zzaq1 n l k b)+1+1)) 3==0) (brC (srcOk n l ((zzaq1 n l k b)+1+1+1) (seedK l (Int.toNat ((zzaq1 n l k b)+1+1)+1))&&decide (4<=200)) (some ((.agg [.pv (.str b.name),.pv .nils,.pv .nils,.pv (.str {data:=#[]}),.pv (.bool false),.pv (.int .i64 (IntKind.wrap .i64 (1+pickV l (Int.toNat ((zzaq1 n l k b)+1+1+1)) 4)))],[[.pv (.sl n l),.pv (.int .i64 ((zzaq1 n l k b)+1+1+1+1)),.pv (.int .u64 (seedK l (Int.toNat ((zzaq1 n l k b)+1+1+1)+1)))]]))) none) (some ((.agg [.pv (.str b.name),.pv .nils,.pv .nils,.pv (.str {data:=#[]}),.pv (.bool false),.pv (.int .i64 (Int.ofNat 0))],[[.pv (.sl n l),.pv (.int .i64 ((zzaq1 n l k b)+1+1+1)),.pv (.int .u64 (seedK l (Int.toNat ((zzaq1 n l k b)+1+1)+1)))]])))) none)) (brC (srcOk n l ((zzaq1 n l k b)+1+1) (seedK l (Int.toNat ((zzaq1 n l k b)+1)+1))&&decide (3<=200)&&decide (2<=3)) (brC (pickV l (Int.toNat ((zzaq1 n l k b)+1+1)) 3==0) (brC (srcOk n l ((zzaq1 n l k b)+1+1+1) (seedK l (Int.toNat ((zzaq1 n l k b)+1+1)+1))&&decide (4<=200)) (some ((.agg [.pv (.str b.name),.pv .nils,.pv .nils,.pv (.str {data:=#[]}),.pv (.bool false),.pv (.int .i64 (IntKind.wrap .i64 (1+pickV l (Int.toNat ((zzaq1 n l k b)+1+1+1)) 4)))],[[.pv (.sl n l),.pv (.int .i64 ((zzaq1 n l k b)+1+1+1+1)),.pv (.int .u64 (seedK l (Int.toNat ((zzaq1 n l k b)+1+1+1)+1)))]]))) none) (some ((.agg [.pv (.str b.name),.pv .nils,.pv .nils,.pv (.str {data:=#[]}),.pv (.bool false),.pv (.int .i64 (Int.ofNat 0))],[[.pv (.sl n l),.pv (.int .i64 ((zzaq1 n l k b)+1+1+1)),.pv (.int .u64 (seedK l (Int.toNat ((zzaq1 n l k b)+1+1)+1)))]])))) none)) none) (brC (G9 n l ((zzaq1 n l k b)+1) (seedK l (Int.toNat (zzaq1 n l k b)+1)) (pL b.cols) (pL b.idxs) 12288 16384 20480 {data:=#[]} {data:=#[]} false 0 {data:=#[]} false 0 (↑ b.cols.length:Int) (pickV l (Int.toNat (zzaq1 n l k b)) 3)) (brC (srcOk n l (zzaq0 n l k b) (seedK l (plD (asL (pL b.cols)) (Int.toNat (pickV l (Int.toNat (zzaq1 n l k b)) 3)) (Int.toNat ((zzaq1 n l k b)+1))))&&decide (2<=200)&&decide (2<=2)) (brC (pickV l (Int.toNat (zzaq0 n l k b)) 2==0) (brC (decide ((↑ b.cols.length:Int)>0)) (brC (decide ((↑ b.cols.length:Int)<=1)) (brC (decide (0<=0)&&decide (0<(↑ b.cols.length:Int))) (brC (Nat.blt 0 (List.length (List.drop 0 (List.map PV.str b.cols)))&&PV.isStr (zzaq6 n l k b)&&true) (brC (srcOk n l ((zzaq0 n l k b)+1) (seedK l (Int.toNat (zzaq0 n l k b)+1))&&decide (2<=200)&&decide (2<=2)) (brC (srcOk n l ((zzaq0 n l k b)+1+1) (seedK l (Int.toNat ((zzaq0 n l k b)+1)+1))&&decide (3<=200)&&decide (2<=3)) (brC (pickV l (Int.toNat ((zzaq0 n l k b)+1+1)) 3==0) (brC (srcOk n l ((zzaq0 n l k b)+1+1+1) (seedK l (Int.toNat ((zzaq0 n l k b)+1+1)+1))&&decide (4<=200)) (some ((.agg [.pv (.str b.name),.pv .nils,.lst 3 63 (List.length (zzaq2 n l k b)) (encO (zzaq2 n l k b)) true,.pv (.str (PV.asStr (zzaq6 n l k b))),.pv (.bool (pickV l (Int.toNat ((zzaq0 n l k b)+1)) 2==0)),.pv (.int .i64 (IntKind.wrap .i64 (1+pickV l (Int.toNat ((zzaq0 n l k b)+1+1+1)) 4)))],[[.pv (.sl n l),.pv (.int .i64 ((zzaq0 n l k b)+1+1+1+1)),.pv (.int .u64 (seedK l (Int.toNat ((zzaq0 n l k b)+1+1+1)+1)))]]))) none) (some ((.agg [.pv (.str b.name),.pv .nils,.lst 3 63 (List.length (zzaq2 n l k b)) (encO (zzaq2 n l k b)) true,.pv (.str (PV.asStr (zzaq6 n l k b))),.pv (.bool (pickV l (Int.toNat ((zzaq0 n l k b)+1)) 2==0)),.pv (.int .i64 (Int.ofNat 0))],[[.pv (.sl n l),.pv (.int .i64 ((zzaq0 n l k b)+1+1+1)),.pv (.int .u64 (seedK l (Int.toNat ((zzaq0 n l k b)+1+1)+1)))]])))) none) none) none) none) (brC (srcOk n l ((zzaq0 n l k b)+1) (seedK l (Int.toNat (zzaq0 n l k b)+1))&&decide ((↑ b.cols.length:Int)<=200)) (brC (decide (0<=pickV l (Int.toNat ((zzaq0 n l k b)+1)) (↑ b.cols.length:Int))&&decide (pickV l (Int.toNat ((zzaq0 n l k b)+1)) (↑ b.cols.length:Int)<(↑ b.cols.length:Int))) (brC (Nat.blt 0 (List.length (zzaq5 n l k b))&&PV.isStr (List.headD (zzaq5 n l k b) PV.nilp)&&true) (brC (srcOk n l ((zzaq0 n l k b)+1+1) (seedK l (Int.toNat ((zzaq0 n l k b)+1)+1))&&decide (2<=200)&&decide (2<=2)) (brC (srcOk n l ((zzaq0 n l k b)+1+1+1) (seedK l (Int.toNat ((zzaq0 n l k b)+1+1)+1))&&decide (3<=200)&&decide (2<=3)) (brC (pickV l (Int.toNat ((zzaq0 n l k b)+1+1+1)) 3==0) (brC (srcOk n l ((zzaq0 n l k b)+1+1+1+1) (seedK l (Int.toNat ((zzaq0 n l k b)+1+1+1)+1))&&decide (4<=200)) (some ((.agg [.pv (.str b.name),.pv .nils,.lst 3 63 (List.length (zzaq2 n l k b)) (encO (zzaq2 n l k b)) true,.pv (.str (PV.asStr (List.headD (zzaq5 n l k b) PV.nilp))),.pv (.bool (pickV l (Int.toNat ((zzaq0 n l k b)+1+1)) 2==0)),.pv (.int .i64 (IntKind.wrap .i64 (1+pickV l (Int.toNat ((zzaq0 n l k b)+1+1+1+1)) 4)))],[[.pv (.sl n l),.pv (.int .i64 ((zzaq0 n l k b)+1+1+1+1+1)),.pv (.int .u64 (seedK l (Int.toNat ((zzaq0 n l k b)+1+1+1+1)+1)))]]))) none) (some ((.agg [.pv (.str b.name),.pv .nils,.lst 3 63 (List.length (zzaq2 n l k b)) (encO (zzaq2 n l k b)) true,.pv (.str (PV.asStr (List.headD (zzaq5 n l k b) PV.nilp))),.pv (.bool (pickV l (Int.toNat ((zzaq0 n l k b)+1+1)) 2==0)),.pv (.int .i64 (Int.ofNat 0))],[[.pv (.sl n l),.pv (.int .i64 ((zzaq0 n l k b)+1+1+1+1)),.pv (.int .u64 (seedK l (Int.toNat ((zzaq0 n l k b)+1+1+1)+1)))]])))) none) none) none) none) none)) (brC (srcOk n l ((zzaq0 n l k b)+1) (seedK l (Int.toNat (zzaq0 n l k b)+1))&&decide (3<=200)&&decide (2<=3)) (brC (pickV l (Int.toNat ((zzaq0 n l k b)+1)) 3==0) (brC (srcOk n l ((zzaq0 n l k b)+1+1) (seedK l (Int.toNat ((zzaq0 n l k b)+1)+1))&&decide (4<=200)) (some ((.agg [.pv (.str b.name),.pv .nils,.lst 3 63 (List.length (zzaq2 n l k b)) (encO (zzaq2 n l k b)) true,.pv (.str {data:=#[]}),.pv (.bool false),.pv (.int .i64 (IntKind.wrap .i64 (1+pickV l (Int.toNat ((zzaq0 n l k b)+1+1)) 4)))],[[.pv (.sl n l),.pv (.int .i64 ((zzaq0 n l k b)+1+1+1)),.pv (.int .u64 (seedK l (Int.toNat ((zzaq0 n l k b)+1+1)+1)))]]))) none) (some ((.agg [.pv (.str b.name),.pv .nils,.lst 3 63 (List.length (zzaq2 n l k b)) (encO (zzaq2 n l k b)) true,.pv (.str {data:=#[]}),.pv (.bool false),.pv (.int .i64 (Int.ofNat 0))],[[.pv (.sl n l),.pv (.int .i64 ((zzaq0 n l k b)+1+1)),.pv (.int .u64 (seedK l (Int.toNat ((zzaq0 n l k b)+1)+1)))]])))) none)) (brC (srcOk n l ((zzaq0 n l k b)+1) (seedK l (Int.toNat (zzaq0 n l k b)+1))&&decide (3<=200)&&decide (2<=3)) (brC (pickV l (Int.toNat ((zzaq0 n l k b)+1)) 3==0) (brC (srcOk n l ((zzaq0 n l k b)+1+1) (seedK l (Int.toNat ((zzaq0 n l k b)+1)+1))&&decide (4<=200)) (some ((.agg [.pv (.str b.name),.pv .nils,.lst 3 63 (List.length (zzaq2 n l k b)) (encO (zzaq2 n l k b)) true,.pv (.str {data:=#[]}),.pv (.bool false),.pv (.int .i64 (IntKind.wrap .i64 (1+pickV l (Int.toNat ((zzaq0 n l k b)+1+1)) 4)))],[[.pv (.sl n l),.pv (.int .i64 ((zzaq0 n l k b)+1+1+1)),.pv (.int .u64 (seedK l (Int.toNat ((zzaq0 n l k b)+1+1)+1)))]]))) none) (some ((.agg [.pv (.str b.name),.pv .nils,.lst 3 63 (List.length (zzaq2 n l k b)) (encO (zzaq2 n l k b)) true,.pv (.str {data:=#[]}),.pv (.bool false),.pv (.int .i64 (Int.ofNat 0))],[[.pv (.sl n l),.pv (.int .i64 ((zzaq0 n l k b)+1+1)),.pv (.int .u64 (seedK l (Int.toNat ((zzaq0 n l k b)+1)+1)))]])))) none)) none) none)) none) (brC (srcOk n l (↑k:Int) (seedK l k)&&isL (pL b.cols)&&isL (pL b.idxs)&&Nat.beq 12288 12288&&Nat.beq 16384 16384&&Nat.beq 20480 20480&&eqB {data:=#[]} []&&eqB {data:=#[]} []&&!false&&0==0&&eqB {data:=#[]} []&&!false&&0==0&&0==0&&decide ((↑k:Int)<=400000)&&decide (List.length (asL (pL b.cols))<=10)) (brC (srcOk n l (zzaq1 n l k b) (seedK l (Int.toNat (↑k:Int)+List.length (asL (pL b.cols))))&&decide (3<=200)) (brC (G9 n l ((zzaq1 n l k b)+1) (seedK l (Int.toNat (zzaq1 n l k b)+1)) (pL b.cols) (pL b.idxs) 12288 16384 20480 {data:=#[]} {data:=#[]} false 0 {data:=#[]} false 0 (↑ b.cols.length:Int) (pickV l (Int.toNat (zzaq1 n l k b)) 3)&&Nat.beq 9 9&&(decide (pickV l (Int.toNat (zzaq1 n l k b)) 3<=0)||decide ((↑ b.cols.length:Int)<=0))) (brC (srcOk n l ((zzaq1 n l k b)+1) (seedK l (Int.toNat (zzaq1 n l k b)+1))&&decide (2<=200)&&decide (2<=2)) (brC (pickV l (Int.toNat ((zzaq1 n l k b)+1)) 2==0) (brC (decide ((↑ b.cols.length:Int)>0)) (brC (decide ((↑ b.cols.length:Int)<=1)) (brC (decide (0<=0)&&decide (0<(↑ b.cols.length:Int))) (brC (Nat.blt 0 (List.length (List.drop 0 (List.map PV.str b.cols)))&&PV.isStr (zzaq6 n l k b)&&true) (brC (srcOk n l ((zzaq1 n l k b)+1+1) (seedK l (Int.toNat ((zzaq1 n l k b)+1)+1))&&decide (2<=200)&&decide (2<=2)) (brC (srcOk n l ((zzaq1 n l k b)+1+1+1) (seedK l (Int.toNat ((zzaq1 n l k b)+1+1)+1))&&decide (3<=200)&&decide (2<=3)) (brC (pickV l (Int.toNat ((zzaq1 n l k b)+1+1+1)) 3==0) (brC (srcOk n l ((zzaq1 n l k b)+1+1+1+1) (seedK l (Int.toNat ((zzaq1 n l k b)+1+1+1)+1))&&decide (4<=200)) (some ((.agg [.pv (.str b.name),.lst 1 9 (List.length (zzaq3 n l k b)) (List.map PV.str (zzaq3 n l k b)) true,.pv .nils,.pv (.str (PV.asStr (zzaq6 n l k b))),.pv (.bool (pickV l (Int.toNat ((zzaq1 n l k b)+1+1)) 2==0)),.pv (.int .i64 (IntKind.wrap .i64 (1+pickV l (Int.toNat ((zzaq1 n l k b)+1+1+1+1)) 4)))],[[.pv (.sl n l),.pv (.int .i64 ((zzaq1 n l k b)+1+1+1+1+1)),.pv (.int .u64 (seedK l (Int.toNat ((zzaq1 n l k b)+1+1+1+1)+1)))]]))) none) (some ((.agg [.pv (.str b.name),.lst 1 9 (List.length (zzaq3 n l k b)) (List.map PV.str (zzaq3 n l k b)) true,.pv .nils,.pv (.str (PV.asStr (zzaq6 n l k b))),.pv (.bool (pickV l (Int.toNat ((zzaq1 n l k b)+1+1)) 2==0)),.pv (.int .i64 (Int.ofNat 0))],[[.pv (.sl n l),.pv (.int .i64 ((zzaq1 n l k b)+1+1+1+1)),.pv (.int .u64 (seedK l (Int.toNat ((zzaq1 n l k b)+1+1+1)+1)))]])))) none) none) none) none) (brC (srcOk n l ((zzaq1 n l k b)+1+1) (seedK l (Int.toNat ((zzaq1 n l k b)+1)+1))&&decide ((↑ b.cols.length:Int)<=200)) (brC (decide (0<=pickV l (Int.toNat ((zzaq1 n l k b)+1+1)) (↑ b.cols.length:Int))&&decide (pickV l (Int.toNat ((zzaq1 n l k b)+1+1)) (↑ b.cols.length:Int)<(↑ b.cols.length:Int))) (brC (Nat.blt 0 (List.length (zzaq4 n l k b))&&PV.isStr (List.headD (zzaq4 n l k b) PV.nilp)&&true) (brC (srcOk n l ((zzaq1 n l k b)+1+1+1) (seedK l (Int.toNat ((zzaq1 n l k b)+1+1)+1))&&decide (2<=200)&&decide (2<=2)) (brC (srcOk n l ((zzaq1 n l k b)+1+1+1+1) (seedK l (Int.toNat ((zzaq1 n l k b)+1+1+1)+1))&&decide (3<=200)&&decide (2<=3)) (brC (pickV l (Int.toNat ((zzaq1 n l k b)+1+1+1+1)) 3==0) (brC (srcOk n l ((zzaq1 n l k b)+1+1+1+1+1) (seedK l (Int.toNat ((zzaq1 n l k b)+1+1+1+1)+1))&&decide (4<=200)) (some ((.agg [.pv (.str b.name),.lst 1 9 (List.length (zzaq3 n l k b)) (List.map PV.str (zzaq3 n l k b)) true,.pv .nils,.pv (.str (PV.asStr (List.headD (zzaq4 n l k b) PV.nilp))),.pv (.bool (pickV l (Int.toNat ((zzaq1 n l k b)+1+1+1)) 2==0)),.pv (.int .i64 (IntKind.wrap .i64 (1+pickV l (Int.toNat ((zzaq1 n l k b)+1+1+1+1+1)) 4)))],[[.pv (.sl n l),.pv (.int .i64 ((zzaq1 n l k b)+1+1+1+1+1+1)),.pv (.int .u64 (seedK l (Int.toNat ((zzaq1 n l k b)+1+1+1+1+1)+1)))]]))) none) (some ((.agg [.pv (.str b.name),.lst 1 9 (List.length (zzaq3 n l k b)) (List.map PV.str (zzaq3 n l k b)) true,.pv .nils,.pv (.str (PV.asStr (List.headD (zzaq4 n l k b) PV.nilp))),.pv (.bool (pickV l (Int.toNat ((zzaq1 n l k b)+1+1+1)) 2==0)),.pv (.int .i64 (Int.ofNat 0))],[[.pv (.sl n l),.pv (.int .i64 ((zzaq1 n l k b)+1+1+1+1+1)),.pv (.int .u64 (seedK l (Int.toNat ((zzaq1 n l k b)+1+1+1+1)+1)))]])))) none) none) none) none) none)) (brC (srcOk n l ((zzaq1 n l k b)+1+1) (seedK l (Int.toNat ((zzaq1 n l k b)+1)+1))&&decide (3<=200)&&decide (2<=3)) (brC (pickV l (Int.toNat ((zzaq1 n l k b)+1+1)) 3==0) (brC (srcOk n l ((zzaq1 n l k b)+1+1+1) (seedK l (Int.toNat ((zzaq1 n l k b)+1+1)+1))&&decide (4<=200)) (some ((.agg [.pv (.str b.name),.lst 1 9 (List.length (zzaq3 n l k b)) (List.map PV.str (zzaq3 n l k b)) true,.pv .nils,.pv (.str {data:=#[]}),.pv (.bool false),.pv (.int .i64 (IntKind.wrap .i64 (1+pickV l (Int.toNat ((zzaq1 n l k b)+1+1+1)) 4)))],[[.pv (.sl n l),.pv (.int .i64 ((zzaq1 n l k b)+1+1+1+1)),.pv (.int .u64 (seedK l (Int.toNat ((zzaq1 n l k b)+1+1+1)+1)))]]))) none) (some ((.agg [.pv (.str b.name),.lst 1 9 (List.length (zzaq3 n l k b)) (List.map PV.str (zzaq3 n l k b)) true,.pv .nils,.pv (.str {data:=#[]}),.pv (.bool false),.pv (.int .i64 (Int.ofNat 0))],[[.pv (.sl n l),.pv (.int .i64 ((zzaq1 n l k b)+1+1+1)),.pv (.int .u64 (seedK l (Int.toNat ((zzaq1 n l k b)+1+1)+1)))]])))) none)) (brC (srcOk n l ((zzaq1 n l k b)+1+1) (seedK l (Int.toNat ((zzaq1 n l k b)+1)+1))&&decide (3<=200)&&decide (2<=3)) (brC (pickV l (Int.toNat ((zzaq1 n l k b)+1+1)) 3==0) (brC (srcOk n l ((zzaq1 n l k b)+1+1+1) (seedK l (Int.toNat ((zzaq1 n l k b)+1+1)+1))&&decide (4<=200)) (some ((.agg [.pv (.str b.name),.lst 1 9 (List.length (zzaq3 n l k b)) (List.map PV.str (zzaq3 n l k b)) true,.pv .nils,.pv (.str {data:=#[]}),.pv (.bool false),.pv (.int .i64 (IntKind.wrap .i64 (1+pickV l (Int.toNat ((zzaq1 n l k b)+1+1+1)) 4)))],[[.pv (.sl n l),.pv (.int .i64 ((zzaq1 n l k b)+1+1+1+1)),.pv (.int .u64 (seedK l (Int.toNat ((zzaq1 n l k b)+1+1+1)+1)))]]))) none) (some ((.agg [.pv (.str b.name),.lst 1 9 (List.length (zzaq3 n l k b)) (List.map PV.str (zzaq3 n l k b)) true,.pv .nils,.pv (.str {data:=#[]}),.pv (.bool false),.pv (.int .i64 (Int.ofNat 0))],[[.pv (.sl n l),.pv (.int .i64 ((zzaq1 n l k b)+1+1+1)),.pv (.int .u64 (seedK l (Int.toNat ((zzaq1 n l k b)+1+1)+1)))]])))) none)) none) (brC (G9 n l ((zzaq1 n l k b)+1) (seedK l (Int.toNat (zzaq1 n l k b)+1)) (pL b.cols) (pL b.idxs) 12288 16384 20480 {data:=#[]} {data:=#[]} false 0 {data:=#[]} false 0 (↑ b.cols.length:Int) (pickV l (Int.toNat (zzaq1 n l k b)) 3)&&Nat.beq 9 9) (brC (srcOk n l (zzaq0 n l k b) (seedK l (plD (asL (pL b.cols)) (Int.toNat (pickV l (Int.toNat (zzaq1 n l k b)) 3)) (Int.toNat ((zzaq1 n l k b)+1))))&&decide (2<=200)&&decide (2<=2)) (brC (pickV l (Int.toNat (zzaq0 n l k b)) 2==0) (brC (decide ((↑ b.cols.length:Int)>0)) (brC (decide ((↑ b.cols.length:Int)<=1)) (brC (decide (0<=0)&&decide (0<(↑ b.cols.length:Int))) (brC (Nat.blt 0 (List.length (List.drop 0 (List.map PV.str b.cols)))&&PV.isStr (zzaq6 n l k b)&&true) (brC (srcOk n l ((zzaq0 n l k b)+1) (seedK l (Int.toNat (zzaq0 n l k b)+1))&&decide (2<=200)&&decide (2<=2)) (brC (srcOk n l ((zzaq0 n l k b)+1+1) (seedK l (Int.toNat ((zzaq0 n l k b)+1)+1))&&decide (3<=200)&&decide (2<=3)) (brC (pickV l (Int.toNat ((zzaq0 n l k b)+1+1)) 3==0) (brC (srcOk n l ((zzaq0 n l k b)+1+1+1) (seedK l (Int.toNat ((zzaq0 n l k b)+1+1)+1))&&decide (4<=200)) (some ((.agg [.pv (.str b.name),.lst 1 9 (List.length (zzaq3 n l k b)) (List.map PV.str (zzaq3 n l k b)) true,.lst 3 63 (List.length (zzaq2 n l k b)) (encO (zzaq2 n l k b)) true,.pv (.str (PV.asStr (zzaq6 n l k b))),.pv (.bool (pickV l (Int.toNat ((zzaq0 n l k b)+1)) 2==0)),.pv (.int .i64 (IntKind.wrap .i64 (1+pickV l (Int.toNat ((zzaq0 n l k b)+1+1+1)) 4)))],[[.pv (.sl n l),.pv (.int .i64 ((zzaq0 n l k b)+1+1+1+1)),.pv (.int .u64 (seedK l (Int.toNat ((zzaq0 n l k b)+1+1+1)+1)))]]))) none) (some ((.agg [.pv (.str b.name),.lst 1 9 (List.length (zzaq3 n l k b)) (List.map PV.str (zzaq3 n l k b)) true,.lst 3 63 (List.length (zzaq2 n l k b)) (encO (zzaq2 n l k b)) true,.pv (.str (PV.asStr (zzaq6 n l k b))),.pv (.bool (pickV l (Int.toNat ((zzaq0 n l k b)+1)) 2==0)),.pv (.int .i64 (Int.ofNat 0))],[[.pv (.sl n l),.pv (.int .i64 ((zzaq0 n l k b)+1+1+1)),.pv (.int .u64 (seedK l (Int.toNat ((zzaq0 n l k b)+1+1)+1)))]])))) none) none) none) none) (brC (srcOk n l ((zzaq0 n l k b)+1) (seedK l (Int.toNat (zzaq0 n l k b)+1))&&decide ((↑ b.cols.length:Int)<=200)) (brC (decide (0<=pickV l (Int.toNat ((zzaq0 n l k b)+1)) (↑ b.cols.length:Int))&&decide (pickV l (Int.toNat ((zzaq0 n l k b)+1)) (↑ b.cols.length:Int)<(↑ b.cols.length:Int))) (brC (Nat.blt 0 (List.length (zzaq5 n l k b))&&PV.isStr (List.headD (zzaq5 n l k b) PV.nilp)&&true) (brC (srcOk n l ((zzaq0 n l k b)+1+1) (seedK l (Int.toNat ((zzaq0 n l k b)+1)+1))&&decide (2<=200)&&decide (2<=2)) (brC (srcOk n l ((zzaq0 n l k b)+1+1+1) (seedK l (Int.toNat ((zzaq0 n l k b)+1+1)+1))&&decide (3<=200)&&decide (2<=3)) (brC (pickV l (Int.toNat ((zzaq0 n l k b)+1+1+1)) 3==0) (brC (srcOk n l ((zzaq0 n l k b)+1+1+1+1) (seedK l (Int.toNat ((zzaq0 n l k b)+1+1+1)+1))&&decide (4<=200)) (some ((.agg [.pv (.str b.name),.lst 1 9 (List.length (zzaq3 n l k b)) (List.map PV.str (zzaq3 n l k b)) true,.lst 3 63 (List.length (zzaq2 n l k b)) (encO (zzaq2 n l k b)) true,.pv (.str (PV.asStr (List.headD (zzaq5 n l k b) PV.nilp))),.pv (.bool (pickV l (Int.toNat ((zzaq0 n l k b)+1+1)) 2==0)),.pv (.int .i64 (IntKind.wrap .i64 (1+pickV l (Int.toNat ((zzaq0 n l k b)+1+1+1+1)) 4)))],[[.pv (.sl n l),.pv (.int .i64 ((zzaq0 n l k b)+1+1+1+1+1)),.pv (.int .u64 (seedK l (Int.toNat ((zzaq0 n l k b)+1+1+1+1)+1)))]]))) none) (some ((.agg [.pv (.str b.name),.lst 1 9 (List.length (zzaq3 n l k b)) (List.map PV.str (zzaq3 n l k b)) true,.lst 3 63 (List.length (zzaq2 n l k b)) (encO (zzaq2 n l k b)) true,.pv (.str (PV.asStr (List.headD (zzaq5 n l k b) PV.nilp))),.pv (.bool (pickV l (Int.toNat ((zzaq0 n l k b)+1+1)) 2==0)),.pv (.int .i64 (Int.ofNat 0))],[[.pv (.sl n l),.pv (.int .i64 ((zzaq0 n l k b)+1+1+1+1)),.pv (.int .u64 (seedK l (Int.toNat ((zzaq0 n l k b)+1+1+1)+1)))]])))) none) none) none) none) none)) (brC (srcOk n l ((zzaq0 n l k b)+1) (seedK l (Int.toNat (zzaq0 n l k b)+1))&&decide (3<=200)&&decide (2<=3)) (brC (pickV l (Int.toNat ((zzaq0 n l k b)+1)) 3==0) (brC (srcOk n l ((zzaq0 n l k b)+1+1) (seedK l (Int.toNat ((zzaq0 n l k b)+1)+1))&&decide (4<=200)) (some ((.agg [.pv (.str b.name),.lst 1 9 (List.length (zzaq3 n l k b)) (List.map PV.str (zzaq3 n l k b)) true,.lst 3 63 (List.length (zzaq2 n l k b)) (encO (zzaq2 n l k b)) true,.pv (.str {data:=#[]}),.pv (.bool false),.pv (.int .i64 (IntKind.wrap .i64 (1+pickV l (Int.toNat ((zzaq0 n l k b)+1+1)) 4)))],[[.pv (.sl n l),.pv (.int .i64 ((zzaq0 n l k b)+1+1+1)),.pv (.int .u64 (seedK l (Int.toNat ((zzaq0 n l k b)+1+1)+1)))]]))) none) (some ((.agg [.pv (.str b.name),.lst 1 9 (List.length (zzaq3 n l k b)) (List.map PV.str (zzaq3 n l k b)) true,.lst 3 63 (List.length (zzaq2 n l k b)) (encO (zzaq2 n l k b)) true,.pv (.str {data:=#[]}),.pv (.bool false),.pv (.int .i64 (Int.ofNat 0))],[[.pv (.sl n l),.pv (.int .i64 ((zzaq0 n l k b)+1+1)),.pv (.int .u64 (seedK l (Int.toNat ((zzaq0 n l k b)+1)+1)))]])))) none)) (brC (srcOk n l ((zzaq0 n l k b)+1) (seedK l (Int.toNat (zzaq0 n l k b)+1))&&decide (3<=200)&&decide (2<=3)) (brC (pickV l (Int.toNat ((zzaq0 n l k b)+1)) 3==0) (brC (srcOk n l ((zzaq0 n l k b)+1+1) (seedK l (Int.toNat ((zzaq0 n l k b)+1)+1))&&decide (4<=200)) (some ((.agg [.pv (.str b.name),.lst 1 9 (List.length (zzaq3 n l k b)) (List.map PV.str (zzaq3 n l k b)) true,.lst 3 63 (List.length (zzaq2 n l k b)) (encO (zzaq2 n l k b)) true,.pv (.str {data:=#[]}),.pv (.bool false),.pv (.int .i64 (IntKind.wrap .i64 (1+pickV l (Int.toNat ((zzaq0 n l k b)+1+1)) 4)))],[[.pv (.sl n l),.pv (.int .i64 ((zzaq0 n l k b)+1+1+1)),.pv (.int .u64 (seedK l (Int.toNat ((zzaq0 n l k b)+1+1)+1)))]]))) none) (some ((.agg [.pv (.str b.name),.lst 1 9 (List.length (zzaq3 n l k b)) (List.map PV.str (zzaq3 n l k b)) true,.lst 3 63 (List.length (zzaq2 n l k b)) (encO (zzaq2 n l k b)) true,.pv (.str {data:=#[]}),.pv (.bool false),.pv (.int .i64 (Int.ofNat 0))],[[.pv (.sl n l),.pv (.int .i64 ((zzaq0 n l k b)+1+1)),.pv (.int .u64 (seedK l (Int.toNat ((zzaq0 n l k b)+1)+1)))]])))) none)) none) none)) none) none):=by kernel_rfl
theorem jjm (n:Nat) (l:List PV) (k:Nat) (s:ByteArray) (h:ByteArray) (t:ByteArray) (xs:List ByteArray) (is:List ByteArray) (i:Int):r_D3n brC n l k s h t xs is i=brC (decide (i<(↑ xs.length:Int))) (brC (srcOk n l (↑k:Int) (seedK l k)&&decide (3<=200)&&decide (2<=3)) (brC (pickV l (Int.toNat (↑k:Int)) 3==0) (brC (decide (0<=i)&&decide (i<(↑ xs.length:Int))) (brC (Nat.blt 0 (List.length (List.drop (Int.toNat i*1) (List.map PV.str xs)))&&PV.isStr (List.headD (List.drop (Int.toNat i*1) (List.map PV.str xs)) PV.nilp)&&true) (some (.inl [(.ptr 0 0,some (.box [.pv (.sl n l),.pv (.int .i64 ((↑k:Int)+1)),.pv (.int .u64 (seedK l (Int.toNat (↑k:Int)+1)))])),(.ptr 12288 0,some (.box [.pv (.str s),.pv (.str h),.pv (pL xs),.pv (pL is)])),(.ptr 16384 0,some (.box [.pv (.str {data:=#[]}),.pv .nils,.pv .nils,.pv (.str {data:=#[]}),.pv (.bool false),.pv (.int .i64 (Int.ofNat 0))])),(.ptr 20480 0,some (.box [.pv (.str t),.lst 1 9 1 [PV.str (PV.asStr (List.headD (List.drop (Int.toNat i*1) (List.map PV.str xs)) PV.nilp))] true,.pv .nils,.pv (.str {data:=#[]}),.pv (.bool false),.pv (.int .i64 (Int.ofNat 0))])),(.pv (.int .i64 (IntKind.wrap .i64 (i+1))),none)])) none) none) (some (.inl [(.ptr 0 0,some (.box [.pv (.sl n l),.pv (.int .i64 ((↑k:Int)+1)),.pv (.int .u64 (seedK l (Int.toNat (↑k:Int)+1)))])),(.ptr 12288 0,some (.box [.pv (.str s),.pv (.str h),.pv (pL xs),.pv (pL is)])),(.ptr 16384 0,some (.box [.pv (.str {data:=#[]}),.pv .nils,.pv .nils,.pv (.str {data:=#[]}),.pv (.bool false),.pv (.int .i64 (Int.ofNat 0))])),(.ptr 20480 0,some (.box [.pv (.str t),.pv .nils,.pv .nils,.pv (.str {data:=#[]}),.pv (.bool false),.pv (.int .i64 (Int.ofNat 0))])),(.pv (.int .i64 (IntKind.wrap .i64 (i+1))),none)]))) none) (some (.inr (.exit 0,[(.ptr 0 0,some (.box [.pv (.sl n l),.pv (.int .i64 (↑k:Int)),.pv (.int .u64 (seedK l k))])),(.ptr 12288 0,some (.box [.pv (.str s),.pv (.str h),.pv (pL xs),.pv (pL is)])),(.ptr 16384 0,some (.box [.pv (.str {data:=#[]}),.pv .nils,.pv .nils,.pv (.str {data:=#[]}),.pv (.bool false),.pv (.int .i64 (Int.ofNat 0))])),(.ptr 20480 0,some (.box [.pv (.str t),.pv .nils,.pv .nils,.pv (.str {data:=#[]}),.pv (.bool false),.pv (.int .i64 (Int.ofNat 0))]))]))):=by kernel_rfl
end
section
open Go.RowKit
theorem jlt:jaf Tryz.prog yha0:= ⟨jod, jnN, jmD, jex⟩
theorem cst1 (j:Nat):(j:Int)+1=((j+1:Nat):Int):=by omega
theorem wrapC {k:Nat} (h:k<=4611686018427387904):IntKind.wrap .i64 (k:Int)=k:=wrapI (by omega) (by omega)
theorem wrapP {k:Nat} (h:k<=4611686018427387904):IntKind.wrap .i64 (((k+1:Nat):Int)-1)=k:=by rw [wrapI (by omega) (by omega)]; omega
theorem hdS {xs:List ByteArray} {j:Nat} (h:j<xs.length):(xs.map PV.str).drop j=PV.str (xs.getD j ⟨#[]⟩)::(xs.drop (j+1)).map PV.str:=by
 rw [jg3 xs h,List.getD_eq_getElem?_getD,List.getElem?_eq_getElem h]
 rfl
theorem src_k {n:Nat} {l:List PV} (hw:wfB n l=true) (hn:n<=1048577):∀ k:Nat,k<=1048576->srcOk n l (k:Int) (seedK l k)=true:=fun k hk=>jd8 hw hk hn
theorem b1a:∀ x:PV,Nat.beq (List.length [x]) (1*1)=true:=fun _=>rfl
theorem b1b:∀ x:PV,Nat.beq (List.length [x]) 1=true:=fun _=>rfl
theorem b3a:∀ x y z:PV,Nat.beq (List.length [x,y,z]) (1*3)=true:=fun _ _ _=>rfl
theorem b3b:∀ x y z:PV,Nat.beq (List.length [x,y,z]) 3=true:=fun _ _ _=>rfl
theorem bl0:∀ (x:PV) (t:List PV),Nat.blt 0 (List.length (x::t))=true:=fun _ _=>rfl
theorem wfIQ:wfI 6 [PV.int IntKind.i64 1,PV.int IntKind.i64 1,PV.int IntKind.i64 1,PV.int IntKind.i64 2,PV.int IntKind.i64 3,PV.int IntKind.i64 4]=true:=by kernel_rfl
theorem wfTQ:wfT 8 [PV.str { data:=#[97,110,110] },PV.str { data:=#[98,111,98] },PV.str { data:=#[51] },PV.str { data:=#[49,50] },PV.str { data:=#[49] },PV.str { data:=#[50] },PV.str { data:=#[97] },PV.str { data:=#[] }]=true:=by kernel_rfl
theorem stD_1 {xs:List ByteArray} (h:xs.length<=1):stD xs=0:=by unfold stD; rw [dT (show (xs.length:Int)<=1 by omega)]; rfl
theorem stD_2 {xs:List ByteArray} (h:¬ xs.length<=1):stD xs=1:=by unfold stD; rw [dF (show ¬ (xs.length:Int)<=1 by omega)]; rfl
theorem jiY {l:List PV} {xs:List ByteArray} {k:Nat} (h:xs.length<=1):colD l xs k=xs.getD 0 ⟨#[]⟩:=by unfold colD; rw [dT (show (xs.length:Int)<=1 by omega)]; rfl
theorem jjk {l:List PV} {xs:List ByteArray} {k:Nat} (h:¬ xs.length<=1):colD l xs k=xs.getD (pickV l k xs.length).toNat ⟨#[]⟩:=by unfold colD; rw [dF (show ¬ (xs.length:Int)<=1 by omega)]; rfl
theorem jcI (l:List PV) (xs:List ByteArray):∀ m k,(jas l xs m k).length=m
 | 0,_=>rfl
 | m+1,k=>by unfold jas; rw [nqH,jcI l xs m]
theorem jnV (n:Nat) (l:List PV) (hw:wfB n l=true) (hn:n<=1048577) (s h t:ByteArray) (xs is:List ByteArray) (hx:xs.length<=10):∀ (m i k cn:Nat) (cl:List PV),m+i=xs.length->k+m<=1048000->cn<=i ->
  LoopsTo (rdB brC Tryz.prog yha0 lp_Dw LO_Dw Tryz.f83 3 [0]) [bSx n l k,bTb s h xs is,bQ0,bQ5 t (cL1 cn cl) (.pv .nils),aI i] (.exit 0,[bSx n l (k+m),bTb s h xs is,bQ0,bQ5 t (cL1 (cn+(colsD l (xs.drop i) k).length) (cl++(colsD l (xs.drop i) k).map .str)) (.pv .nils)]):=by
 intro m
 induction m with
 | zero=>
  intro i k cn cl hm hk hc
  refine .done _ _ ((jiT n l k s h t xs is cn cl i).trans ?_)
  rw [dF (show ¬ (i:Int)<(xs.length:Int) by omega),List.drop_eq_nil_of_le (by omega:xs.length<=i)]
  show some _=some _
  rw [show colsD l [] k=[] from rfl,List.map_nil,List.append_nil]
  rfl
 | succ m ih=>
  intro i k cn cl hm hk hc
  have hi:i<xs.length:=by omega
  have tree:=jiT n l k s h t xs is cn cl i
  have sk:=src_k hw hn
  simp (disch:=omega) only [nqF,Nat.mul_one,hdS,sk,cst1,dT,wrapC,List.headD_cons,PV.isStr,PV.asStr,b1a,b1b,bl0,decide_true,Bool.and_true,Bool.true_and,brTb] at tree
  rw [nqK hi]
  have eg:xs.getD i ⟨#[]⟩=xs[i]:=by rw [List.getD_eq_getElem?_getD,List.getElem?_eq_getElem hi]; rfl
  rw [eg] at tree
  unfold colsD
  cases hp:(pickV l k 3==0) with
  | true=>
   rw [hp,brTb] at tree
   have ih':=ih (i+1) (k+1) (cn+1) (cl++[PV.str xs[i]]) (by omega) (by omega) (by omega)
   rw [cond_true,nqH,List.map_cons,show cn+((colsD l (xs.drop (i+1)) (k+1)).length+1)=cn+1+(colsD l (xs.drop (i+1)) (k+1)).length by omega,show k+(m+1)=k+1+m by omega,show cl++PV.str xs[i]::(colsD l (xs.drop (i+1)) (k+1)).map PV.str=(cl++[PV.str xs[i]])++(colsD l (xs.drop (i+1)) (k+1)).map PV.str by rw [List.append_assoc]; rfl]
   exact .step _ _ _ tree ih'
  | false=>
   rw [hp,brFb] at tree
   have ih':=ih (i+1) (k+1) cn cl (by omega) (by omega) (by omega)
   rw [cond_false,show k+(m+1)=k+1+m by omega]
   exact .step _ _ _ tree ih'
def nlC1 (xs:List ByteArray):CV:=bif xs.isEmpty then .pv .nils else cL1 xs.length (xs.map .str)
theorem jm5 (n:Nat) (l:List PV) (hw:wfB n l=true) (hn:n<=1048577) (s h t:ByteArray) (xs is:List ByteArray) (hx:xs.length<=10):∀ (m i k:Nat),m+i=xs.length->k+m<=1048000 ->
  LoopsTo (rdB brC Tryz.prog yha0 lp_Dw LO_Dw Tryz.f83 3 [0]) [bSx n l k,bTb s h xs is,bQ0,bQ5 t (.pv .nils) (.pv .nils),aI i] (.exit 0,[bSx n l (k+m),bTb s h xs is,bQ0,bQ5 t (nlC1 (colsD l (xs.drop i) k)) (.pv .nils)]):=by
 intro m
 induction m with
 | zero=>
  intro i k hm hk
  refine .done _ _ ((jjm n l k s h t xs is i).trans ?_)
  rw [dF (show ¬ (i:Int)<(xs.length:Int) by omega),List.drop_eq_nil_of_le (by omega:xs.length<=i)]
  rfl
 | succ m ih=>
  intro i k hm hk
  have hi:i<xs.length:=by omega
  have tree:=jjm n l k s h t xs is i
  have sk:=src_k hw hn
  simp (disch:=omega) only [nqF,Nat.mul_one,hdS,sk,cst1,dT,wrapC,List.headD_cons,PV.isStr,PV.asStr,b1a,b1b,bl0,decide_true,Bool.and_true,Bool.true_and,brTb] at tree
  rw [nqK hi]
  have eg:xs.getD i ⟨#[]⟩=xs[i]:=by rw [List.getD_eq_getElem?_getD,List.getElem?_eq_getElem hi]; rfl
  rw [eg] at tree
  unfold colsD
  cases hp:(pickV l k 3==0) with
  | true=>
   rw [hp,brTb] at tree
   have ih':=jnV n l hw hn s h t xs is hx m (i+1) (k+1) 1 [PV.str xs[i]] (by omega) (by omega) (by omega)
   rw [cond_true,show k+(m+1)=k+1+m by omega]
   refine .step _ _ _ tree ?_
   rw [show nlC1 (xs[i]::colsD l (xs.drop (i+1)) (k+1))=cL1 (1+(colsD l (xs.drop (i+1)) (k+1)).length) ([PV.str xs[i]]++(colsD l (xs.drop (i+1)) (k+1)).map PV.str) by rw [Nat.add_comm 1]; rfl]
   exact ih'
  | false=>
   rw [hp,brFb] at tree
   have ih':=ih (i+1) (k+1) (by omega) (by omega)
   rw [cond_false,show k+(m+1)=k+1+m by omega]
   exact .step _ _ _ tree ih'
theorem hdS0 {xs:List ByteArray} (h:0<xs.length):(xs.map PV.str).drop 0=PV.str (xs.getD 0 ⟨#[]⟩)::(xs.drop 1).map PV.str:=hdS h
theorem jgV (n:Nat) (l:List PV) (hw:wfB n l=true) (hn:n<=1048577) (s h t:ByteArray) (xs is:List ByteArray) (hx:xs.length<=10) (h1:1<=xs.length):∀ (i k wn:Nat) (wl:List PV),k+3*i<=1048000->wn+i<=1000 ->
  LoopsTo (rdB brC Tryz.prog yha0 lp_Dw LO_Dw Tryz.f83 9 [0]) [bSx n l k,bTb s h xs is,bQ0,bQ5 t (.pv .nils) (cL3 wn wl),aI xs.length,aI i]
   (.exit 2,[bSx n l (k+i*(stD xs+2)),bTb s h xs is,bQ0,bQ5 t (.pv .nils) (cL3 (wn+i) (wl++encO (jas l xs i k))),aI xs.length]):=by
 intro i
 induction i with
 | zero=>
  intro k wn wl hk hc
  refine .done _ _ ((jhr n l k s h t xs is wn wl ((0:Nat):Int)).trans ?_)
  rw [dF (show ¬ ((0:Nat):Int)>0 by omega),show jas l xs 0 k=[] from rfl,show encO []=[] from rfl,List.append_nil,Nat.zero_mul]
  rfl
 | succ i ih=>
  intro k wn wl hk hc
  have tree:=jhr n l k s h t xs is wn wl ((i+1:Nat):Int)
  have sk:=src_k hw hn
  have pr:=jaK hw k (show (1:Int)<=(xs.length:Int) by omega)
  by_cases hs:xs.length<=1
  .simp (disch:=omega) only [nqF,Nat.mul_one,hdS,hdS0,sk,cst1,dT,wrapC,wrapP,List.headD_cons,PV.isStr,PV.asStr,b3a,b3b,bl0,wfIQ,wfTQ,decide_true,Bool.and_true,Bool.true_and,brTb] at tree
   have e1:encO (jas l xs (i+1) k)=[PV.str (xs.getD 0 ⟨#[]⟩),PV.int .i64 (jar l k opsQ),PV.str (textV l (k+1) valsQ)]++encO (jas l xs i (k+2)):=by
    show PV.str (colD l xs k)::PV.int .i64 (jar l (k+stD xs) opsQ)::PV.str (textV l (k+stD xs+1) valsQ)::encO (jas l xs i (k+stD xs+2))=_
    rw [jiY hs,stD_1 hs]
    rfl
   have e2:k+(i+1)*(stD xs+2)=k+2+i*(stD xs+2):=by rw [stD_1 hs]; omega
   rw [e1,e2,<- List.append_assoc,show wn+(i+1)=wn+1+i by omega]
   exact .step _ _ _ tree (ih (k+2) (wn+1) _ (by omega) (by omega))
  .simp (disch:=omega) only [nqF,Nat.mul_one,hdS,sk,cst1,dT,dF,wrapC,wrapP,List.headD_cons,PV.isStr,PV.asStr,b3a,b3b,bl0,wfIQ,wfTQ,decide_true,Bool.and_true,Bool.true_and,brTb,brFb] at tree
   have e1:encO (jas l xs (i+1) k)=[PV.str (xs.getD (pickV l k xs.length).toNat ⟨#[]⟩),PV.int .i64 (jar l (k+1) opsQ),PV.str (textV l (k+2) valsQ)]++encO (jas l xs i (k+3)):=by
    show PV.str (colD l xs k)::PV.int .i64 (jar l (k+stD xs) opsQ)::PV.str (textV l (k+stD xs+1) valsQ)::encO (jas l xs i (k+stD xs+2))=_
    rw [jjk hs,stD_2 hs]
    rfl
   have e2:k+(i+1)*(stD xs+2)=k+3+i*(stD xs+2):=by rw [stD_2 hs]; omega
   rw [e1,e2,<- List.append_assoc,show wn+(i+1)=wn+1+i by omega]
   exact .step _ _ _ tree (ih (k+3) (wn+1) _ (by omega) (by omega))
theorem jk8 (n:Nat) (l:List PV) (s h t:ByteArray) (xs is:List ByteArray) (i k:Nat) (hi:i=0\/xs.length=0) :
  LoopsTo (rdB brC Tryz.prog yha0 lp_Dw LO_Dw Tryz.f83 9 [0]) [bSx n l k,bTb s h xs is,bQ0,bQ5 t (.pv .nils) (.pv .nils),aI xs.length,aI i]
   (.exit 2,[bSx n l k,bTb s h xs is,bQ0,bQ5 t (.pv .nils) (.pv .nils),aI xs.length]):=by
 refine .done _ _ ((jhf n l k s h t xs is i).trans ?_)
 by_cases h0:i=0
 .rw [dF (show ¬ (i:Int)>0 by omega)]
  rfl
 .rw [dT (show (i:Int)>0 by omega),dF (show ¬ (xs.length:Int)>0 by omega)]
  rfl
theorem jmH (n:Nat) (l:List PV) (hw:wfB n l=true) (hn:n<=1048577) (s h t:ByteArray) (xs is:List ByteArray) (hx:xs.length<=10) (h1:1<=xs.length) (i k:Nat) (hk:k+3*i<=1047900) (hi:i<=10) :
  LoopsTo (rdB brC Tryz.prog yha0 lp_Dw LO_Dw Tryz.f83 9 [0]) [bSx n l k,bTb s h xs is,bQ0,bQ5 t (.pv .nils) (.pv .nils),aI xs.length,aI ((i+1:Nat):Int)]
   (.exit 2,[bSx n l (k+(i+1)*(stD xs+2)),bTb s h xs is,bQ0,bQ5 t (.pv .nils) (cL3 (i+1) (encO (jas l xs (i+1) k))),aI xs.length]):=by
 have tree:=jhf n l k s h t xs is ((i+1:Nat):Int)
 have sk:=src_k hw hn
 have pr:=jaK hw k (show (1:Int)<=(xs.length:Int) by omega)
 by_cases hs:xs.length<=1
 .simp (disch:=omega) only [nqF,Nat.mul_one,hdS,hdS0,sk,cst1,dT,wrapC,wrapP,List.headD_cons,PV.isStr,PV.asStr,b3a,b3b,bl0,wfIQ,wfTQ,decide_true,Bool.and_true,Bool.true_and,brTb] at tree
  have e1:encO (jas l xs (i+1) k)=[PV.str (xs.getD 0 ⟨#[]⟩),PV.int .i64 (jar l k opsQ),PV.str (textV l (k+1) valsQ)]++encO (jas l xs i (k+2)):=by
   show PV.str (colD l xs k)::PV.int .i64 (jar l (k+stD xs) opsQ)::PV.str (textV l (k+stD xs+1) valsQ)::encO (jas l xs i (k+stD xs+2))=_
   rw [jiY hs,stD_1 hs]
   rfl
  have e2:k+(i+1)*(stD xs+2)=k+2+i*(stD xs+2):=by rw [stD_1 hs]; omega
  rw [e1,e2,show cL3 (i+1)=cL3 (1+i) by rw [Nat.add_comm]]
  exact .step _ _ _ tree (jgV n l hw hn s h t xs is hx h1 i (k+2) 1 _ (by omega) (by omega))
 .simp (disch:=omega) only [nqF,Nat.mul_one,hdS,sk,cst1,dT,dF,wrapC,wrapP,List.headD_cons,PV.isStr,PV.asStr,b3a,b3b,bl0,wfIQ,wfTQ,decide_true,Bool.and_true,Bool.true_and,brTb,brFb] at tree
  have e1:encO (jas l xs (i+1) k)=[PV.str (xs.getD (pickV l k xs.length).toNat ⟨#[]⟩),PV.int .i64 (jar l (k+1) opsQ),PV.str (textV l (k+2) valsQ)]++encO (jas l xs i (k+3)):=by
   show PV.str (colD l xs k)::PV.int .i64 (jar l (k+stD xs) opsQ)::PV.str (textV l (k+stD xs+1) valsQ)::encO (jas l xs i (k+stD xs+2))=_
   rw [jjk hs,stD_2 hs]
   rfl
  have e2:k+(i+1)*(stD xs+2)=k+3+i*(stD xs+2):=by rw [stD_2 hs]; omega
  rw [e1,e2,show cL3 (i+1)=cL3 (1+i) by rw [Nat.add_comm]]
  exact .step _ _ _ tree (jgV n l hw hn s h t xs is hx h1 i (k+3) 1 _ (by omega) (by omega))
theorem jgH (n:Nat) (l:List PV) (hw:wfB n l=true) (hn:n<=1048577) (s h t:ByteArray) (xs is:List ByteArray) (cn:Nat) (cl:List PV) (hx:xs.length<=10) (h1:1<=xs.length):∀ (i k wn:Nat) (wl:List PV),k+3*i<=1048000->wn+i<=1000 ->
  LoopsTo (rdB brC Tryz.prog yha0 lp_Dw LO_Dw Tryz.f83 9 [0]) [bSx n l k,bTb s h xs is,bQ0,bQ5 t (cL1 cn cl) (cL3 wn wl),aI xs.length,aI i]
   (.exit 2,[bSx n l (k+i*(stD xs+2)),bTb s h xs is,bQ0,bQ5 t (cL1 cn cl) (cL3 (wn+i) (wl++encO (jas l xs i k))),aI xs.length]):=by
 intro i
 induction i with
 | zero=>
  intro k wn wl hk hc
  refine .done _ _ ((jgN n l k s h t xs is cn cl wn wl ((0:Nat):Int)).trans ?_)
  rw [dF (show ¬ ((0:Nat):Int)>0 by omega),show jas l xs 0 k=[] from rfl,show encO []=[] from rfl,List.append_nil,Nat.zero_mul]
  rfl
 | succ i ih=>
  intro k wn wl hk hc
  have tree:=jgN n l k s h t xs is cn cl wn wl ((i+1:Nat):Int)
  have sk:=src_k hw hn
  have pr:=jaK hw k (show (1:Int)<=(xs.length:Int) by omega)
  by_cases hs:xs.length<=1
  .simp (disch:=omega) only [nqF,Nat.mul_one,hdS,hdS0,sk,cst1,dT,wrapC,wrapP,List.headD_cons,PV.isStr,PV.asStr,b3a,b3b,bl0,wfIQ,wfTQ,decide_true,Bool.and_true,Bool.true_and,brTb] at tree
   have e1:encO (jas l xs (i+1) k)=[PV.str (xs.getD 0 ⟨#[]⟩),PV.int .i64 (jar l k opsQ),PV.str (textV l (k+1) valsQ)]++encO (jas l xs i (k+2)):=by
    show PV.str (colD l xs k)::PV.int .i64 (jar l (k+stD xs) opsQ)::PV.str (textV l (k+stD xs+1) valsQ)::encO (jas l xs i (k+stD xs+2))=_
    rw [jiY hs,stD_1 hs]
    rfl
   have e2:k+(i+1)*(stD xs+2)=k+2+i*(stD xs+2):=by rw [stD_1 hs]; omega
   rw [e1,e2,<- List.append_assoc,show wn+(i+1)=wn+1+i by omega]
   exact .step _ _ _ tree (ih (k+2) (wn+1) _ (by omega) (by omega))
  .simp (disch:=omega) only [nqF,Nat.mul_one,hdS,sk,cst1,dT,dF,wrapC,wrapP,List.headD_cons,PV.isStr,PV.asStr,b3a,b3b,bl0,wfIQ,wfTQ,decide_true,Bool.and_true,Bool.true_and,brTb,brFb] at tree
   have e1:encO (jas l xs (i+1) k)=[PV.str (xs.getD (pickV l k xs.length).toNat ⟨#[]⟩),PV.int .i64 (jar l (k+1) opsQ),PV.str (textV l (k+2) valsQ)]++encO (jas l xs i (k+3)):=by
    show PV.str (colD l xs k)::PV.int .i64 (jar l (k+stD xs) opsQ)::PV.str (textV l (k+stD xs+1) valsQ)::encO (jas l xs i (k+stD xs+2))=_
    rw [jjk hs,stD_2 hs]
    rfl
   have e2:k+(i+1)*(stD xs+2)=k+3+i*(stD xs+2):=by rw [stD_2 hs]; omega
   rw [e1,e2,<- List.append_assoc,show wn+(i+1)=wn+1+i by omega]
   exact .step _ _ _ tree (ih (k+3) (wn+1) _ (by omega) (by omega))
theorem jla (n:Nat) (l:List PV) (s h t:ByteArray) (xs is:List ByteArray) (cn:Nat) (cl:List PV) (i k:Nat) (hi:i=0\/xs.length=0) :
  LoopsTo (rdB brC Tryz.prog yha0 lp_Dw LO_Dw Tryz.f83 9 [0]) [bSx n l k,bTb s h xs is,bQ0,bQ5 t (cL1 cn cl) (.pv .nils),aI xs.length,aI i]
   (.exit 2,[bSx n l k,bTb s h xs is,bQ0,bQ5 t (cL1 cn cl) (.pv .nils),aI xs.length]):=by
 refine .done _ _ ((jgC n l k s h t xs is cn cl i).trans ?_)
 by_cases h0:i=0
 .rw [dF (show ¬ (i:Int)>0 by omega)]
  rfl
 .rw [dT (show (i:Int)>0 by omega),dF (show ¬ (xs.length:Int)>0 by omega)]
  rfl
theorem jk4 (n:Nat) (l:List PV) (hw:wfB n l=true) (hn:n<=1048577) (s h t:ByteArray) (xs is:List ByteArray) (cn:Nat) (cl:List PV) (hx:xs.length<=10) (h1:1<=xs.length) (i k:Nat) (hk:k+3*i<=1047900) (hi:i<=10) :
  LoopsTo (rdB brC Tryz.prog yha0 lp_Dw LO_Dw Tryz.f83 9 [0]) [bSx n l k,bTb s h xs is,bQ0,bQ5 t (cL1 cn cl) (.pv .nils),aI xs.length,aI ((i+1:Nat):Int)]
   (.exit 2,[bSx n l (k+(i+1)*(stD xs+2)),bTb s h xs is,bQ0,bQ5 t (cL1 cn cl) (cL3 (i+1) (encO (jas l xs (i+1) k))),aI xs.length]):=by
 have tree:=jgC n l k s h t xs is cn cl ((i+1:Nat):Int)
 have sk:=src_k hw hn
 have pr:=jaK hw k (show (1:Int)<=(xs.length:Int) by omega)
 by_cases hs:xs.length<=1
 .simp (disch:=omega) only [nqF,Nat.mul_one,hdS,hdS0,sk,cst1,dT,wrapC,wrapP,List.headD_cons,PV.isStr,PV.asStr,b3a,b3b,bl0,wfIQ,wfTQ,decide_true,Bool.and_true,Bool.true_and,brTb] at tree
  have e1:encO (jas l xs (i+1) k)=[PV.str (xs.getD 0 ⟨#[]⟩),PV.int .i64 (jar l k opsQ),PV.str (textV l (k+1) valsQ)]++encO (jas l xs i (k+2)):=by
   show PV.str (colD l xs k)::PV.int .i64 (jar l (k+stD xs) opsQ)::PV.str (textV l (k+stD xs+1) valsQ)::encO (jas l xs i (k+stD xs+2))=_
   rw [jiY hs,stD_1 hs]
   rfl
  have e2:k+(i+1)*(stD xs+2)=k+2+i*(stD xs+2):=by rw [stD_1 hs]; omega
  rw [e1,e2,show cL3 (i+1)=cL3 (1+i) by rw [Nat.add_comm]]
  exact .step _ _ _ tree (jgH n l hw hn s h t xs is cn cl hx h1 i (k+2) 1 _ (by omega) (by omega))
 .simp (disch:=omega) only [nqF,Nat.mul_one,hdS,sk,cst1,dT,dF,wrapC,wrapP,List.headD_cons,PV.isStr,PV.asStr,b3a,b3b,bl0,wfIQ,wfTQ,decide_true,Bool.and_true,Bool.true_and,brTb,brFb] at tree
  have e1:encO (jas l xs (i+1) k)=[PV.str (xs.getD (pickV l k xs.length).toNat ⟨#[]⟩),PV.int .i64 (jar l (k+1) opsQ),PV.str (textV l (k+2) valsQ)]++encO (jas l xs i (k+3)):=by
   show PV.str (colD l xs k)::PV.int .i64 (jar l (k+stD xs) opsQ)::PV.str (textV l (k+stD xs+1) valsQ)::encO (jas l xs i (k+stD xs+2))=_
   rw [jjk hs,stD_2 hs]
   rfl
  have e2:k+(i+1)*(stD xs+2)=k+3+i*(stD xs+2):=by rw [stD_2 hs]; omega
  rw [e1,e2,show cL3 (i+1)=cL3 (1+i) by rw [Nat.add_comm]]
  exact .step _ _ _ tree (jgH n l hw hn s h t xs is cn cl hx h1 i (k+3) 1 _ (by omega) (by omega))
theorem jg7 {l:List PV} {m:Nat}:∀ (xs:List ByteArray) (k:Nat),few20 xs m->few20 (colsD l xs k) m
 | [],_,h=>⟨Nat.zero_le _,fun y hy=>by cases hy⟩
 | x::t,k,h=>by
  have ht:few20 t (m-1):=⟨by have:=h.1; rw [nqH] at this; omega,fun y hy=>h.2 y (List.mem_cons_of_mem _ hy)⟩
  have hm:1<=m:=by have:=h.1; rw [nqH] at this; omega
  have r:=jg7 (l:=l) t (k+1) ht
  unfold colsD
  cases (pickV l k 3==0) with
  | true=>
   refine ⟨?_,fun y hy=>?_⟩
   .rw [cond_true,nqH]
    have:=r.1
    omega
   .rw [cond_true] at hy
    rcases List.mem_cons.1 hy with rfl | hy
    .exact h.2 _ (List.mem_cons_self ..)
    .exact r.2 y hy
  | false=>exact ⟨by have:=r.1; rw [cond_false]; omega,r.2⟩
theorem jje {n:Nat} {l:List PV} {a g:Int} {p q:PV} {x y z:Nat} {a0 o0:ByteArray} {d0:Bool} {z0:Int} {o:ByteArray} {d:Bool} {u m i:Int} (hc:G9 n l a g p q x y z a0 o0 d0 z0 o d u m i=true) :
  ∃ (k i':Nat) (xs is:List ByteArray),a=k/\n<=1048577/\g=seedK l k/\wfB n l=true/\p=pL xs/\q=pL is/\x=12288/\y=16384/\z=20480/\a0=⟨#[]⟩/\o0=⟨#[]⟩/\d0=false/\z0=0/\o=⟨#[]⟩/\d=false/\u=0/\m=(xs.length:Int)/\i=i'/\i'<=3/\k<=500000/\xs.length<=10:=by
 unfold G9 at hc
 obtain ⟨hc,g17⟩:=andE hc
 obtain ⟨hc,g16⟩:=andE hc
 obtain ⟨hc,g15⟩:=andE hc
 obtain ⟨hc,g14⟩:=andE hc
 obtain ⟨hc,g13⟩:=andE hc
 obtain ⟨⟨⟨⟨⟨⟨⟨⟨⟨⟨⟨⟨g0,g1⟩,g2⟩,g3⟩,g4⟩,g5⟩,g6⟩,g7⟩,g8⟩,g9⟩,g10⟩,g11⟩,g12⟩:=andE12 hc
 obtain ⟨k,rfl,hk,hn,rfl,hw⟩:=jbh g0
 obtain ⟨xs,rfl,_⟩:=jau g1
 obtain ⟨is,rfl,_⟩:=jau g2
 rw [show asL (pL xs)=xs from jao xs] at g13 g17
 obtain ⟨i',rfl⟩:=Int.eq_ofNat_of_zero_le (nqI g14)
 have h15:=nqI g15
 have h16:=nqI g16
 refine ⟨k,i',xs,is,rfl,hn,rfl,hw,rfl,rfl,nqB g3,nqB g4,nqB g5,ja5 g6,ja5 g7,?_,eq_of_beq g9,ja5 g10,?_,eq_of_beq g12,eq_of_beq g13,rfl,by omega,by omega,nqI g17⟩
 .cases d0 with | true=>cases g8 | false=>rfl
 .cases d with | true=>cases g11 | false=>rfl
theorem jn1 {n:Nat} {l:List PV} {a g:Int} {p q:PV} {x y z:Nat} {a0 o0 s h t:ByteArray} {d0:Bool} {z0:Int} {o:ByteArray} {d:Bool} {u m i:Int} {e:TypeId} {cn:Nat} {cl:List PV} (hc:G9 n l a g p q x y z a0 o0 d0 z0 o d u m i=true) (hE:Nat.beq e 9=true) (hz:(decide (i<=0)||decide (m<=0))=true) :
  LoopsTo (rdB brC Tryz.prog yha0 lp_Dw LO_Dw Tryz.f83 9 [0]) [(.ptr 0 0,some (.box [.pv (.sl n l),.pv (.int .i64 a),.pv (.int .u64 g)])),(.ptr x 0,some (.box [.pv (.str s),.pv (.str h),.pv p,.pv q])),(.ptr y 0,some (.box [.pv (.str a0),.pv .nils,.pv .nils,.pv (.str o0),.pv (.bool d0),.pv (.int .i64 z0)])),(.ptr z 0,some (.box [.pv (.str t),.lst 1 e cn cl true,.pv .nils,.pv (.str o),.pv (.bool d),.pv (.int .i64 u)])),(.pv (.int .i64 m),none),(.pv (.int .i64 i),none)]
   (.exit 2,[aB0 (sx n l a g),aBx 3 [.pv (.str s),.pv (.str h),.pv p,.pv q],bQ0,bQ5 t (cL1 cn cl) (.pv .nils),aI m]):=by
 have hE:=nqB hE
 obtain ⟨k,i',xs,is,h1,hn,h2,hw,h3,h4,h5,h6,h7,h8,h9,h10,h11,h12,h13,h14,h15,h16,hi,hk,hx⟩:=jje hc
 rw [hE,h1,h2,h3,h4,h5,h6,h7,h8,h9,h10,h11,h12,h13,h14,h15,h16]
 rw [h15,h16] at hz
 refine jla n l _ _ _ xs is _ _ i' k ?_
 rcases Bool.or_eq_true_iff.1 hz with hz | hz
 .have:=nqI hz
  exact .inl (by omega)
 .have:=nqI hz
  exact .inr (by omega)
theorem jnr {n:Nat} {l:List PV} {a g:Int} {p q:PV} {x y z:Nat} {a0 o0 s h t:ByteArray} {d0:Bool} {z0:Int} {o:ByteArray} {d:Bool} {u m i:Int} {e:TypeId} {cn:Nat} {cl:List PV} (hc:G9 n l a g p q x y z a0 o0 d0 z0 o d u m i=true) (hE:Nat.beq e 9=true) (hz:(decide (i<=0)||decide (m<=0))=false) :
  LoopsTo (rdB brC Tryz.prog yha0 lp_Dw LO_Dw Tryz.f83 9 [0]) [(.ptr 0 0,some (.box [.pv (.sl n l),.pv (.int .i64 a),.pv (.int .u64 g)])),(.ptr x 0,some (.box [.pv (.str s),.pv (.str h),.pv p,.pv q])),(.ptr y 0,some (.box [.pv (.str a0),.pv .nils,.pv .nils,.pv (.str o0),.pv (.bool d0),.pv (.int .i64 z0)])),(.ptr z 0,some (.box [.pv (.str t),.lst 1 e cn cl true,.pv .nils,.pv (.str o),.pv (.bool d),.pv (.int .i64 u)])),(.pv (.int .i64 m),none),(.pv (.int .i64 i),none)]
   (.exit 2,[bSx n l (plD (asL p) i.toNat a.toNat),aBx 3 [.pv (.str s),.pv (.str h),.pv p,.pv q],bQ0,bQ5 t (cL1 cn cl) (cL3 (jcP l (asL p) i.toNat a.toNat).length (encO (jcP l (asL p) i.toNat a.toNat))),aI m]):=by
 have hE:=nqB hE
 obtain ⟨k,i',xs,is,h1,hn,h2,hw,h3,h4,h5,h6,h7,h8,h9,h10,h11,h12,h13,h14,h15,h16,hi,hk,hx⟩:=jje hc
 rw [h15,h16] at hz
 have hz:=Bool.or_eq_false_iff.1 hz
 have z1:=of_decide_eq_false hz.1
 have z2:=of_decide_eq_false hz.2
 obtain ⟨j,rfl⟩:∃ j,i'=j+1:=⟨i'-1,by omega⟩
 rw [hE,h1,h2,h3,h4,h5,h6,h7,h8,h9,h10,h11,h12,h13,h14,h15,h16]
 rw [show asL (pL xs)=xs from jao xs,jkR,jes,nqF,nqF,jcI]
 exact jk4 n l hw hn _ _ _ xs is _ _ hx (by omega) j k (by omega) (by omega)
set_option maxHeartbeats 1000000 in
theorem jnI:∀ b∈jai (jaO Tryz.f83),jaP Tryz.prog (tabL yha0) (OL lp_Dw) Tryz.f83.ntmps (pbOf [0]) LO_Dw b:=by
 refine jdb [3,9] (by kernel_rfl) (fun k hk=>?_) (fun k hk=>?_)
 .rcases List.mem_cons.1 hk with rfl | hk
  .kernel_rfl
  .rw [List.mem_singleton.1 hk]; kernel_rfl
 .rcases List.mem_cons.1 hk with rfl | hk
  .refine ⟨jan (by kernel_rfl),fun ls e ls' hl=>?_⟩
   replace hl:pickA (jis ls)=some (e,ls'):=hl
   unfold jis at hl
   split at hl
   .rename_i n l a g x s h p q y a0 o0 d0 z0 z t o d u i
    have key:(srcOk n l a g&&isL p&&isL q&&Nat.beq x 12288&&Nat.beq y 16384&&Nat.beq z 20480&&eqB a0 []&&eqB o0 []&&!d0&&(z0==0)&&eqB o []&&!d&&(u==0)&&(i==0)&&decide (a<=400000)&&decide ((asL p).length<=10))=true ->
      LoopsTo (rdB brC Tryz.prog yha0 lp_Dw LO_Dw Tryz.f83 3 [0]) [(.ptr 0 0,some (.box [.pv (.sl n l),.pv (.int .i64 a),.pv (.int .u64 g)])),(.ptr x 0,some (.box [.pv (.str s),.pv (.str h),.pv p,.pv q])),(.ptr y 0,some (.box [.pv (.str a0),.pv .nils,.pv .nils,.pv (.str o0),.pv (.bool d0),.pv (.int .i64 z0)])),(.ptr z 0,some (.box [.pv (.str t),.pv .nils,.pv .nils,.pv (.str o),.pv (.bool d),.pv (.int .i64 u)])),(.pv (.int .i64 i),none)]
       (.exit 0,[bSx n l (a.toNat+(asL p).length),aBx 3 [.pv (.str s),.pv (.str h),.pv p,.pv q],bQ0,bQ5 t (nlC1 (colsD l (asL p) a.toNat)) (.pv .nils)]):=fun hc=>by
     obtain ⟨hc,g15⟩:=andE hc
     obtain ⟨hc,g14⟩:=andE hc
     obtain ⟨hc,g13⟩:=andE hc
     obtain ⟨⟨⟨⟨⟨⟨⟨⟨⟨⟨⟨⟨g0,g1⟩,g2⟩,g3⟩,g4⟩,g5⟩,g6⟩,g7⟩,g8⟩,g9⟩,g10⟩,g11⟩,g12⟩:=andE12 hc
     obtain ⟨k,rfl,hk,hn,rfl,hw⟩:=jbh g0
     obtain ⟨xs,rfl,_⟩:=jau g1
     obtain ⟨is,rfl,_⟩:=jau g2
     rw [show asL (pL xs)=xs from jao xs] at g15 ⊢
     have h14:=nqI g14
     obtain rfl:=nqB g3
     obtain rfl:=nqB g4
     obtain rfl:=nqB g5
     obtain rfl:=ja5 g6
     obtain rfl:=ja5 g7
     obtain rfl:=eq_of_beq g9
     obtain rfl:=ja5 g10
     obtain rfl:=eq_of_beq g12
     obtain rfl:=eq_of_beq g13
     have g15:=nqI g15
     cases d0 with
     | true=>cases g8
     | false=>
      cases d with
      | true=>cases g11
      | false=>
       have:=jm5 n l hw hn s h t xs is g15 xs.length 0 k rfl (by omega)
       exact this
    rcases pick2 hl with ⟨hc,he⟩ | ⟨hn,hc,he⟩
    .cases he
     obtain ⟨hc,g⟩:=andE hc
     have:=key hc
     rw [jd9] at g
     unfold nlC1 at this
     rw [g] at this
     exact this
    .cases he
     have:=key hc
     rw [hc,Bool.true_and,jd9] at hn
     unfold nlC1 at this
     rw [hn] at this
     rw [jd9]
     exact this
   .cases hl
  .rw [List.mem_singleton.1 hk]
   refine ⟨jan (by kernel_rfl),fun ls e ls' hl=>?_⟩
   replace hl:pickA (jhH ls)=some (e,ls'):=hl
   unfold jhH at hl
   split at hl
   .rcases pick2 hl with ⟨hc,he⟩ | ⟨hn',hc,he⟩
    .cases he
     obtain ⟨hc,hz⟩:=andE hc
     obtain ⟨k,i',xs,is,rfl,hn,rfl,hw,rfl,rfl,rfl,rfl,rfl,rfl,rfl,rfl,rfl,rfl,rfl,rfl,rfl,rfl,hi,hk,hx⟩:=jje hc
     refine jk8 _ _ _ _ _ xs is i' k ?_
     rcases Bool.or_eq_true_iff.1 hz with hz | hz
     .have:=nqI hz
      exact .inl (by omega)
     .have:=nqI hz
      exact .inr (by omega)
    .cases he
     obtain ⟨k,i',xs,is,rfl,hn,rfl,hw,rfl,rfl,rfl,rfl,rfl,rfl,rfl,rfl,rfl,rfl,rfl,rfl,rfl,rfl,hi,hk,hx⟩:=jje hc
     rw [hc,Bool.true_and] at hn'
     have hz:=Bool.or_eq_false_iff.1 hn'
     have z1:=of_decide_eq_false hz.1
     have z2:=of_decide_eq_false hz.2
     obtain ⟨j,rfl⟩:∃ j,i'=j+1:=⟨i'-1,by omega⟩
     rw [show asL (pL xs)=xs from jao xs,jkR,jes,nqF,nqF,jcI]
     exact jmH _ _ hw hn _ _ _ xs is hx (by omega) j k (by omega) (by omega)
   .rcases pick2 hl with ⟨hc,he⟩ | ⟨hn',hc,he⟩
    .cases he
     obtain ⟨⟨hc,hE⟩,hz⟩:=andE2 hc
     exact jn1 hc hE hz
    .cases he
     rw [hc,Bool.true_and] at hn'
     obtain ⟨hc,hE⟩:=andE hc
     exact jnr hc hE hn'
   .cases hl
def oR (x:CoT):Prop:=x.col.size<=20/\x.val.size<=20/\0<=x.op/\x.op<=10
def qR (q:QuT):Prop:=q.tab.size<=20/\few20 q.cols 7/\(q.whr.length<=4/\∀ x∈q.whr,oR x)/\q.ord.size<=20 /\ -1<=q.lim/\q.lim<=100
def goodN (n:Nat) (l:List PV) (k c:Nat) (X:Option (IV×List (List CV))):Prop:=∃ (r:QuT) (k':Nat),k<=k'/\k'<=k+c/\qR r/\∃ x,NilCs x (tgtQ r)/\X=some (.agg x,[sk n l k'])
def drawQ (c:Nat) (q:Nat->List PV->Nat->Option (IV×List (List CV))) (n:Nat) (l:List PV) (k:Nat):QuT×Nat:=
 @Classical.epsilon (QuT×Nat) ⟨⟨⟨⟨#[]⟩,[],[],⟨#[]⟩,false,0⟩,0⟩⟩ fun x=>k<=x.2/\x.2<=k+c/\qR x.1/\∃ y,NilCs y (tgtQ x.1)/\q n l k=some (.agg y,[sk n l x.2])
theorem jiL {c n k:Nat} {l:List PV} {q:Nat->List PV->Nat->Option (IV×List (List CV))} (h:goodN n l k c (q n l k)):k<=(drawQ c q n l k).2/\(drawQ c q n l k).2<=k+c/\qR (drawQ c q n l k).1/\∃ y,NilCs y (tgtQ (drawQ c q n l k).1)/\q n l k=some (.agg y,[sk n l (drawQ c q n l k).2]):=by
 obtain ⟨r,k',h1,h2,h3,h4⟩:=h
 exact @Classical.epsilon_spec (QuT×Nat) (fun x=>k<=x.2/\x.2<=k+c/\qR x.1/\∃ y,NilCs y (tgtQ x.1)/\q n l k=some (.agg y,[sk n l x.2])) ⟨(r,k'),h1,h2,h3,h4⟩
theorem jf2 {n:Nat} {l:List PV} {k c:Nat} {b:Bool} {X Y:Option (IV×List (List CV))} (h1:b=true->goodN n l k c X) (h2:b=false->goodN n l k c Y):goodN n l k c (brC b X Y):=by
 cases b with
 | true=>exact h1 rfl
 | false=>exact h2 rfl
theorem jaD {n:Nat} {l:List PV} {k c k':Nat} {tab ord:ByteArray} {d:Bool} {lim:Int} {C W:CV} {cs:List ByteArray} {ws:List CoT} (hC:NilC C (.lst 1 9 cs.length (cs.map .str) true)) (hW:NilC W (.lst 3 63 ws.length (encO ws) true)) (h1:k<=k') (h2:k'<=k+c) (hR:qR ⟨tab,cs,ws,ord,d,lim⟩) :
  goodN n l k c (some (.agg [.pv (.str tab),C,W,.pv (.str ord),.pv (.bool d),.pv (.int .i64 lim)],[[.pv (.sl n l),.pv (.int .i64 (k':Int)),.pv (.int .u64 (seedK l k'))]])):=
 ⟨_,k',h1,h2,hR,_,.cons (.same _) (.cons hC (.cons hW (.cons (.same _) (.cons (.same _) (.cons (.same _) .nil))))),rfl⟩
theorem jqs {t:List PV} {a b:Int} (h:t.all (fun p=>decide (a<=p.asInt)&&decide (p.asInt<=b))=true) (ha:a<=0) (hb:0<=b) (l:List PV) (k:Nat):a<=jar l k t/\jar l k t<=b:=by
 unfold jar
 generalize (pickV l k t.length).toNat=j
 rcases Nat.lt_or_ge j t.length with hj | hj
 .rw [nqK hj]
  have:=List.all_eq_true.1 h _ (List.getElem_mem hj)
  rw [nqE,decide_eq_true_eq,decide_eq_true_eq] at this
  exact this
 .rw [List.drop_eq_nil_of_le hj]
  exact ⟨ha,hb⟩
theorem nilC1:NilC (.pv .nils) (.lst 1 9 ([]:List ByteArray).length (([]:List ByteArray).map .str) true):=.nil _ _
theorem nilC3:NilC (.pv .nils) (.lst 3 63 ([]:List CoT).length (encO []) true):=.nil _ _
theorem jfK (cs:List ByteArray):NilC (.lst 1 9 cs.length (cs.map .str) true) (.lst 1 9 cs.length (cs.map .str) true):=.same _
theorem jfe (ws:List CoT):NilC (.lst 3 63 ws.length (encO ws) true) (.lst 3 63 ws.length (encO ws) true):=.same _
theorem jgE (l:List PV) (k:Nat):0<=jar l k opsQ/\jar l k opsQ<=10:=jqs (by kernel_rfl) (by omega) (by omega) l k
theorem jlw {xs:List ByteArray} {m:Nat} (h:∀ x∈xs,x.size<=m) (j:Nat):(xs.getD j ⟨#[]⟩).size<=m:=by
 rw [List.getD_eq_getElem?_getD]
 rcases Nat.lt_or_ge j xs.length with hj | hj
 .rw [List.getElem?_eq_getElem hj]
  exact h _ (List.getElem_mem hj)
 .rw [List.getElem?_eq_none hj]
  exact Nat.zero_le _
theorem jhw {l:List PV} {xs:List ByteArray} (h:∀ x∈xs,x.size<=20):∀ m k,∀ x∈jas l xs m k,oR x
 | 0,_,x,hx=>by cases hx
 | m+1,k,x,hx=>by
  unfold jas at hx
  rcases List.mem_cons.1 hx with rfl | hx
  .refine ⟨?_,Nat.le_trans (jbT (m:=3) (by decide) l _) (by omega),(jgE l _).1,(jgE l _).2⟩
   exact jlw h _
  .exact jhw h m _ x hx
theorem jmu {n:Nat} {l:List PV} (hw:wfB n l=true) (j:Nat) : -1<=IntKind.wrap .i64 (1+pickV l j 4)/\IntKind.wrap .i64 (1+pickV l j 4)<=100:=by
 have:=jaK hw j (show (1:Int)<=4 by omega)
 rw [wrapI (by omega) (by omega)]
 omega
theorem qR_mk {tab ord:ByteArray} {d:Bool} {lim:Int} {cs:List ByteArray} {ws:List CoT} (h1:tab.size<=20) (h2:few20 cs 6) (h3:ws.length<=3) (h4:∀ x∈ws,oR x) (h5:ord.size<=20) (h6 : -1<=lim/\lim<=100):qR ⟨tab,cs,ws,ord,d,lim⟩:=⟨h1,h2.up,⟨by exact Nat.le_succ_of_le h3,h4⟩,h5,h6.1,h6.2⟩
set_option maxHeartbeats 4000000 in
theorem jmC (n:Nat) (l:List PV) (hw:wfB n l=true) (hn:n<=1048577) (k:Nat) (hk:k<=300000) (b:TblT) (hb:tpR b):goodN n l k 40 (q_Dw brC n l k b):=by
 have tree:=jo6 n l k b
 revert tree; try delta zzaq6; intro tree
 revert tree; try delta zzaq5; intro tree
 revert tree; try delta zzaq4; intro tree
 revert tree; try delta zzaq3; intro tree
 revert tree; try delta zzaq2; intro tree
 revert tree; try delta zzaq1; intro tree
 revert tree; try delta zzaq0; intro tree
 obtain ⟨t1,t2,t3,t4⟩:=hb
 have sk:=src_k hw hn
 have i0:isE pL shL (pL b.cols)=true:=jaU (t3.shL (by omega))
 have i1:isE pL shL (pL b.idxs)=true:=jaU (t4.shL (by omega))
 have a0:asE pL (pL b.cols)=b.cols:=jao _
 have hl:=t3.1
 have q3:=jaK hw (k+b.cols.length) (show (1:Int)<=3 by omega)
 have g9:∀ k1:Nat,k1<=500000->G9 n l (k1:Int) (seedK l k1) (pL b.cols) (pL b.idxs) 12288 16384 20480 ⟨#[]⟩ ⟨#[]⟩ false 0 ⟨#[]⟩ false 0 (b.cols.length:Int) (pickV l (k+b.cols.length) 3)=true:=fun k1 h1=>by
  unfold G9
  rw [sk k1 (by omega),show isL (pL b.cols)=true from i0,show isL (pL b.idxs)=true from i1,show asL (pL b.cols)=b.cols from a0,dT q3.1,dT (show pickV l (k+b.cols.length) 3<=3 by omega),dT (show (k1:Int)<=500000 by omega),dT (show b.cols.length<=10 by omega),show ((b.cols.length:Int)==(b.cols.length:Int))=true from beq_self_eq_true _]
  rfl
 have sT:stD b.cols<=1:=by
  by_cases h:b.cols.length<=1
  .rw [stD_1 h]; omega
  .rw [stD_2 h]; omega
 have hp:k+b.cols.length+1<=plD b.cols (pickV l (k+b.cols.length) 3).toNat (k+b.cols.length+1)/\plD b.cols (pickV l (k+b.cols.length) 3).toNat (k+b.cols.length+1)<=k+b.cols.length+10:=by
  rw [jkR]
  obtain ⟨j,hj,hj2⟩:∃ j,(pickV l (k+b.cols.length) 3).toNat=j/\j<=2:=⟨_,rfl,by omega⟩
  rw [hj]
  generalize stD b.cols=u at sT
  refine ⟨Nat.le_add_right _ _,?_⟩
  have:=Nat.mul_le_mul hj2 (show u+2<=3 by omega)
  omega
 have w1:(colsH l b.cols k).length<=6/\few20 (colsH l b.cols k) 6:=by
  rw [jd9]
  have:=jg7 (l:=l) b.cols k t3
  exact ⟨this.1,this⟩
 have w2:(jcP l b.cols (pickV l (k+b.cols.length) 3).toNat (k+b.cols.length+1)).length<=3/\∀ x∈jcP l b.cols (pickV l (k+b.cols.length) 3).toNat (k+b.cols.length+1),oR x:=by
  rw [jes,jcI]
  exact ⟨by omega,jhw t3.2 _ _⟩
 have e1:eqB ⟨#[]⟩ []=true:=rfl
 have lr:=fun j=>jmu hw j
 have nil0:few20 [] 6:=jml _
 have nil1:∀ x∈([]:List CoT),oR x:=fun x h=>by cases h
 have og:=jlw t3.2
 have z0 : -1<=(0:Int)/\(0:Int)<=100:=by omega
 by_cases h0:b.cols.length=0
 .simp (disch:=omega) only [nqF,Nat.mul_one,isL,asL,i0,i1,a0,e1,g9,sk,cst1,dT,dF,hdS,List.headD_cons,PV.isStr,PV.asStr,bl0,decide_true,Nat.beq_refl,beq_self_eq_true,Bool.not_false,Bool.or_true,Bool.true_or,Bool.and_true,Bool.true_and,Bool.false_or,Bool.or_false,brTb,brFb] at tree
  rw [tree]
  repeat' (refine jf2 (fun _=>?_) (fun _=>?_))
  all_goals first
   | exact jaD nilC1 nilC3 (by omega) (by omega) (qR_mk t1 nil0 (by decide) nil1 (by first | exact og _ | exact Nat.zero_le _) (by first | exact z0 | exact lr _))
   | exact jaD nilC1 (jfe _) (by omega) (by omega) (qR_mk t1 nil0 w2.1 w2.2 (by first | exact og _ | exact Nat.zero_le _) (by first | exact z0 | exact lr _))
   | exact jaD (jfK _) nilC3 (by omega) (by omega) (qR_mk t1 w1.2 (by decide) nil1 (by first | exact og _ | exact Nat.zero_le _) (by first | exact z0 | exact lr _))
   | exact jaD (jfK _) (jfe _) (by omega) (by omega) (qR_mk t1 w1.2 w2.1 w2.2 (by first | exact og _ | exact Nat.zero_le _) (by first | exact z0 | exact lr _))
 by_cases h1:b.cols.length<=1
 .simp (disch:=omega) only [hdS0,nqF,Nat.mul_one,isL,asL,i0,i1,a0,e1,g9,sk,cst1,dT,dF,hdS,List.headD_cons,PV.isStr,PV.asStr,bl0,decide_true,Nat.beq_refl,beq_self_eq_true,Bool.not_false,Bool.or_true,Bool.true_or,Bool.and_true,Bool.true_and,Bool.false_or,Bool.or_false,brTb,brFb] at tree
  rw [tree]
  repeat' (refine jf2 (fun _=>?_) (fun _=>?_))
  all_goals first
   | exact jaD nilC1 nilC3 (by omega) (by omega) (qR_mk t1 nil0 (by decide) nil1 (by first | exact og _ | exact Nat.zero_le _) (by first | exact z0 | exact lr _))
   | exact jaD nilC1 (jfe _) (by omega) (by omega) (qR_mk t1 nil0 w2.1 w2.2 (by first | exact og _ | exact Nat.zero_le _) (by first | exact z0 | exact lr _))
   | exact jaD (jfK _) nilC3 (by omega) (by omega) (qR_mk t1 w1.2 (by decide) nil1 (by first | exact og _ | exact Nat.zero_le _) (by first | exact z0 | exact lr _))
   | exact jaD (jfK _) (jfe _) (by omega) (by omega) (qR_mk t1 w1.2 w2.1 w2.2 (by first | exact og _ | exact Nat.zero_le _) (by first | exact z0 | exact lr _))
 .have pr:=fun j=>jaK hw j (show (1:Int)<=(b.cols.length:Int) by omega)
  have prT:∀ j,(pickV l j (b.cols.length:Int)).toNat<b.cols.length:=fun j=>by have:=pr j; omega
  simp (disch:=first | omega | exact prT _ | exact (pr _).1 | exact (pr _).2) only [nqF,Nat.mul_one,isL,asL,i0,i1,a0,e1,g9,sk,cst1,dT,dF,hdS,List.headD_cons,PV.isStr,PV.asStr,bl0,decide_true,Nat.beq_refl,beq_self_eq_true,Bool.not_false,Bool.or_true,Bool.true_or,Bool.and_true,Bool.true_and,Bool.false_or,Bool.or_false,brTb,brFb] at tree
  rw [tree]
  repeat' (refine jf2 (fun _=>?_) (fun _=>?_))
  all_goals first
   | exact jaD nilC1 nilC3 (by omega) (by omega) (qR_mk t1 nil0 (by decide) nil1 (by first | exact og _ | exact Nat.zero_le _) (by first | exact z0 | exact lr _))
   | exact jaD nilC1 (jfe _) (by omega) (by omega) (qR_mk t1 nil0 w2.1 w2.2 (by first | exact og _ | exact Nat.zero_le _) (by first | exact z0 | exact lr _))
   | exact jaD (jfK _) nilC3 (by omega) (by omega) (qR_mk t1 w1.2 (by decide) nil1 (by first | exact og _ | exact Nat.zero_le _) (by first | exact z0 | exact lr _))
   | exact jaD (jfK _) (jfe _) (by omega) (by omega) (qR_mk t1 w1.2 w2.1 w2.2 (by first | exact og _ | exact Nat.zero_le _) (by first | exact z0 | exact lr _))
end
section
open Go.RowKit
end
section
end
section
open Go.RowKit
end
section
open Go.RowKit
abbrev dwV (n:Nat) (l:List PV) (k:Nat) (b:TblT):QuT×Nat:=drawQ 40 (fun n l k=>q_Dw brC n l k b) n l k
def E_Dw:Entry:=fun ivs=>match ivs with
 | [.box 0 [.pv (.sl n l),.pv (.int .i64 a),.pv (.int .u64 g)],.cv (.pv p)]=>[(srcOk n l a g&&isTb p&&decide (a<=300000)&&holds (tpR (asTb p)),.agg (tgtQ (dwV n l a.toNat (asTb p)).1),[sk n l (dwV n l a.toNat (asTb p)).2])]
 | _=>[]
def yia0:List (FuncId×Entry):=(83,E_Dw)::yha0
abbrev lp_Bt:List (Nat×List Nat×List Nat):=[(1000000,[25,38],[55]),(2000019,[5,1,20],[]),(2000029,[5,2,30],[])]
def q_Bt (br:Br) (n:Nat) (l:List PV) (k:Nat) (b:TblT):=evB br Tryz.prog yia0 lp_Bt LO0 Tryz.f47 [.box 0 (sk n l k),cP (pTb b)]
abbrev btV (n:Nat) (l:List PV) (k:Nat) (b:TblT):QuT×Nat:=drawV (fun n l k=>q_Bt brC n l k b) (fun q:QuT=>.agg (tgtQ q)) shQu 60 n l k
def E_Bt:Entry:=fun ivs=>match ivs with
 | [.box 0 [.pv (.sl n l),.pv (.int .i64 a),.pv (.int .u64 g)],.cv (.pv p)]=>[(srcOk n l a g&&isTb p&&decide (a<=250000)&&holds (tpR (asTb p)),.agg (tgtQ (btV n l a.toNat (asTb p)).1),[sk n l (btV n l a.toNat (asTb p)).2])]
 | _=>[]
def yib0:List (FuncId×Entry):=(48,E_Tab29)::yia0
def E_sQT:Entry:=fun ivs=>match ivs with | [.cv (.pv p)]=>[(isQu p,cS (bif qryB (asQu p) then textT (asQu p) else ⟨#[]⟩),[])] | _=>[]
def yie0:List (FuncId×Entry):=(23,E_QOk)::[(66,E_ST)]
def q_sQT (br:Br) (q:QuT):=evB br Tryz.prog yie0 [] LO0 Tryz.f61 [cP (pQu q)]
def yib1:List (FuncId×Entry):=(47,E_Bt)::(61,E_sQT)::yib0
def q_DQT (br:Br) (n:Nat) (l:List PV):=evB br Tryz.prog yib1 [] LO0 Tryz.f20 [cP (.sl n l)]
def q_DPQ (br:Br) (n:Nat) (l:List PV):=evB br Tryz.prog yib1 [] LO0 Tryz.f25 [cP (.sl n l)]
abbrev lp_Sm:List (Nat×List Nat×List Nat):=[(4,[2,3,5],[4])]
def LO_Sm (ls:LS):List (Bool×Ex×LS):=match ls with
 | [(.ptr x 0,some (.box [.pv (.str t),.pv p,.pv w,.pv (.str o),.pv (.bool d),.pv (.int .i64 z)])),(.ptr y 0,some (.box [.pv (.str t2),.pv p2,.pv w2,.pv (.str o2),.pv (.bool d2),.pv (.int .i64 z2)])),(.pv (.int .i64 i),none)]=>
  [(isQu (.agg [.str t,p,w,.str o,.bool d,.int .i64 z])&&isQu (.agg [.str t2,p2,w2,.str o2,.bool d2,.int .i64 z2])&&(i==0)&&Nat.beq x 8192&&Nat.beq y 12288&&holds (asQu (.agg [.str t2,p2,w2,.str o2,.bool d2,.int .i64 z2])=asQu (.agg [.str t,p,w,.str o,.bool d,.int .i64 z])),.exit 0,[aX])]
 | _=>[]
def r_Sm (br:Br) (q:QuT) (i:Int):=rdB br Tryz.prog pdb6 lp_Sm (fun _ ls=>LO_Sm ls) Tryz.f24 4 [] [aBx 2 [.pv (.str q.tab),.pv (pL q.cols),.pv (pOs q.whr),.pv (.str q.ord),.pv (.bool q.desc),.pv (.int .i64 q.lim)],aBx 3 [.pv (.str q.tab),.pv (pL q.cols),.pv (pOs q.whr),.pv (.str q.ord),.pv (.bool q.desc),.pv (.int .i64 q.lim)],aI i]
def q_Sm (br:Br) (q:QuT):=evB br Tryz.prog pdb6 lp_Sm (fun _ ls=>LO_Sm ls) Tryz.f24 [cP (pQu q),cP (pQu q)]
def E_Sm:Entry:=fun ivs=>match ivs with
 | [.cv (.pv p),.cv (.pv r)]=>[(isQu p&&isQu r&&holds (asQu r=asQu p),cB true,[])]
 | _=>[]
def jpZ (br:Br) (n m:Nat) (l k:List PV):=evB br Tryz.prog [] [] LO0 Tryz.f19 [cP (.sl n l),cP (.sl m k)]
def E_big2:Entry:=fun ivs=>match ivs with
 | [.cv (.pv (.sl n l)),.cv (.pv (.sl m k))]=>[(true,cB (decide ((n:Int)>1048576)||decide ((m:Int)>1048576)),[])]
 | _=>[]
abbrev tq (n:Nat) (l:List PV):TblT:=(jat n l 0).1
abbrev dq (n:Nat) (l:List PV):QuT:=(btV n l (jat n l 0).2 (tq n l)).1
def E_DQT:Entry:=fun ivs=>match ivs with | [.cv (.pv (.sl n l))]=>[(wfB n l&&decide (n<=1048576),.agg (tgtQ (dq n l)),[])] | _=>[]
def dpV (n:Nat) (l:List PV):ByteArray:=@Classical.epsilon ByteArray ⟨⟨#[]⟩⟩ fun s=>q_DPQ brC n l=some (cS s,[])
def E_DPQ:Entry:=fun ivs=>match ivs with | [.cv (.pv (.sl n l))]=>[(wfB n l&&decide (n<=1048576),cS (dpV n l),[])] | _=>[]
def ylb:List (FuncId×Entry):=(19,E_big2)::(20,E_DQT)::(21,E_QT)::(22,E_iPQ)::(23,E_QOk)::(24,E_Sm)::(25,E_DPQ)::[(26,E_sPQ)]
abbrev lp_fq:List (Nat×List Nat×List Nat):=[(1000000,[],[16,23,35,41,34,68])]
def q_fq (br:Br) (n:Nat) (l:List PV):=evB br Tryz.prog ylb lp_fq LO0 Tryz.f4 [cP (.sl n l)]
end
end
end Go.Proofs.YtkohbjikomedbaaGreatDoor

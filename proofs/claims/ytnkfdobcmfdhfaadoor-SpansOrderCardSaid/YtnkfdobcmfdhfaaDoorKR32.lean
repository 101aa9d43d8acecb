import Derived.Test.YtnkfdobcmfdhfaaDoorKR27


import Derived.Test.YtnkfdobcmfdhfaaDoorKP2

